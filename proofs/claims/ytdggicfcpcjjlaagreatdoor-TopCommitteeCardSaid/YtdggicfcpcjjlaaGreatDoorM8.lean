/- Part 8 of the texts below the row: Sl7. -/
import Derived.Test.YtdggicfcpcjjlaaGreatDoorM1
import Derived.Test.YtdggicfcpcjjlaaGreatDoorM7
/- Normal forms of lists of chunks; specifications of functions, calls; what a function hands back; slices written out. -/
set_option autoImplicit false
namespace Go.SL
/-! ### Lists of chunks written out -/
class GetAt (i : Nat) (L : List HProp) (c : outParam HProp) : Prop where
 h : L.getD i emp = c
instance (c : HProp) (l : List HProp) : GetAt 0 (c :: l) c := ⟨rfl⟩
instance (i : Nat) (a c : HProp) (l : List HProp) [g : GetAt i l c] : GetAt (i + 1) (a :: l) c := ⟨by rw [← g.h]; rfl⟩
class NormL (L : List HProp) (L' : outParam (List HProp)) : Prop where
 h : L = L'
instance : NormL [] [] := ⟨rfl⟩
instance (a : HProp) (l l' : List HProp) [g : NormL l l'] : NormL (a :: l) (a :: l') := ⟨by rw [g.h]⟩
instance (a c : HProp) (l l' : List HProp) [g : NormL l l'] : NormL (List.set (a :: l) 0 c) (c :: l') := ⟨by rw [← g.h]; rfl⟩
instance (i : Nat) (a c : HProp) (l l' : List HProp) [g : NormL (l.set i c) l'] : NormL (List.set (a :: l) (i + 1) c) (a :: l') := ⟨by rw [← g.h]; rfl⟩
instance (a : HProp) (l m l' : List HProp) [g : NormL (l ++ m) l'] : NormL ((a :: l) ++ m) (a :: l') := ⟨by rw [← g.h]; rfl⟩
instance (m l' : List HProp) [g : NormL m l'] : NormL ([] ++ m) l' := ⟨by rw [← g.h]; rfl⟩
instance (L : List HProp) : NormL (pick [] L) [] := ⟨rfl⟩
instance (i : Nat) (r : List Nat) (L l' : List HProp) (c : HProp) [g : GetAt i L c] [g' : NormL (pick r L) l'] : NormL (pick (i :: r) L) (c :: l') := ⟨by rw [← g'.h, ← g.h]; rfl⟩
section
variable {P : Program} {E : World} {n : Nat} {Q : Post} {ρ : Env} {L L' : List HProp} {c : Code} {all ops : List Oper}
theorem J.norm [g : NormL L L'] (h : J P E n c Q ρ L') : J P E n c Q ρ L := by rw [g.h]; exact h
theorem JL.norm [g : NormL L L'] (h : JL P E n all ops Q ρ L') : JL P E n all ops Q ρ L := by rw [g.h]; exact h
theorem J.re (idx : List Nat) (hi : okIdx L.length idx = true) [g : NormL (SL.pick idx L) L'] (h : J P E n c Q ρ L') : J P E n c Q ρ L := J.pick idx hi (by rw [g.h]; exact h)
theorem JL.re (idx : List Nat) (hi : okIdx L.length idx = true) [g : NormL (SL.pick idx L) L'] (h : JL P E n all ops Q ρ L') : JL P E n all ops Q ρ L := JL.pick idx hi (by rw [g.h]; exact h)
theorem Ent.re (idx : List Nat) (hi : okIdx L.length idx = true) [g : NormL (SL.pick idx L) L'] : Ent L L' := by rw [← g.h]; exact Ent.pick idx L hi
end
theorem QOp.as {P : Program} {E : World} {n : Nat} {o : Oper} {ρ : Env} {L : List HProp} {v v' : Value} (h : QOp P E n o ρ L v) (e : v = v') : QOp P E n o ρ L v' := e ▸ h
/-! ### A step of a region -/
/-- Where a guard lies, what it reads, whether it is met. -/
def guardSlot (all : List Oper) (o : Oper) : Option Tmp := match o.guard with
 | none => none
 | some (g, _) => (all.toArray[g]?).bind (·.dst)
def guardOk (all : List Oper) (ρ : Env) (o : Oper) (want : Bool) : Bool := match o.guard with
 | none => want
 | some (g, b) => match (all.toArray[g]?).bind (·.dst) with
  | none => false
  | some d => match ρ.get d with
   | some u => match gbOf u with
    | some c => bif want then (bif c then b else !b) else (bif c then !b else b)
    | none => !want
   | none => false
section
variable {P : Program} {E : World} {n : Nat} {Q : Post} {ρ : Env} {L L' : List HProp} {o : Oper} {all rest : List Oper}
theorem guardOk_t (h : guardOk all ρ o true = true) : o.guard = none ∨ ∃ g b d, o.guard = some (g, b) ∧ (all.toArray[g]?).bind (·.dst) = some d ∧ ρ.get d = some (.bool b) := by
 unfold guardOk at h
 split at h
 ·rename_i hg; exact .inl hg
 ·rename_i g b hg
  split at h
  ·cases h
  ·rename_i d hd
   split at h
   ·rename_i u hu
    split at h
    ·rename_i c hc
     refine .inr ⟨g, b, d, hg, hd, ?_⟩
     rw [hu]
     have e : u = .bool c := by cases u <;> simp [gbOf] at hc; rw [hc]
     rw [e]
     cases c <;> cases b <;> simp at h <;> rfl
    ·cases h
   ·cases h
theorem guardOk_f (h : guardOk all ρ o false = true) : ∃ g b d u, o.guard = some (g, b) ∧ (all.toArray[g]?).bind (·.dst) = some d ∧ ρ.get d = some u ∧ gbOf u ≠ some b := by
 unfold guardOk at h
 split at h
 ·cases h
 ·rename_i g b hg
  split at h
  ·cases h
  ·rename_i d hd
   split at h
   ·rename_i u hu
    refine ⟨g, b, d, u, hg, hd, hu, ?_⟩
    split at h
    ·rename_i c hc
     rw [hc]
     cases c <;> cases b <;> simp at h ⊢
    ·rename_i hc
     rw [hc]; simp
   ·cases h
theorem L_o {d : Tmp} (hd : o.dst = some d) (hn : Nat.blt d n = true) (hg : guardOk all ρ o true = true) (h : JOp P E n o (fun v L' => JL P E n all rest Q ((d, v) :: ρ) L') ρ L) : JL P E n all (o :: rest) Q ρ L := by
 rcases guardOk_t hg with h1 | ⟨g, b, e, h1, h2, h3⟩
 ·exact JL_o (by rw [hd]; exact hn) h1 (by rw [hd]; exact h)
 ·exact JL_oy (by rw [hd]; exact hn) h1 h2 h3 (by rw [hd]; exact h)
theorem L_q {d : Tmp} {v : Value} (hq : QOp P E n o ρ L v) (hd : o.dst = some d) (hn : Nat.blt d n = true) (hg : guardOk all ρ o true = true) (h : JL P E n all rest Q ((d, v) :: ρ) L) : JL P E n all (o :: rest) Q ρ L :=
 L_o hd hn hg (hq.jop h)
theorem L_s (hd : o.dst = none) (hg : guardOk all ρ o true = true) (h : JOp P E n o (fun _ L' => JL P E n all rest Q ρ L') ρ L) : JL P E n all (o :: rest) Q ρ L := by
 rcases guardOk_t hg with h1 | ⟨g, b, e, h1, h2, h3⟩
 ·exact JL_o (by rw [hd]; rfl) h1 (by rw [hd]; exact h)
 ·exact JL_oy (by rw [hd]; rfl) h1 h2 h3 (by rw [hd]; exact h)
theorem L_n {d : Tmp} (hd : o.dst = some d) (hn : Nat.blt d n = true) (hg : guardOk all ρ o false = true) (h : JL P E n all rest Q ((d, undef) :: ρ) L) : JL P E n all (o :: rest) Q ρ L := by
 obtain ⟨g, b, e, u, h1, h2, h3, h4⟩ := guardOk_f hg
 exact JL_n (by rw [hd]; exact hn) h1 h2 h3 h4 (by rw [hd]; exact h)
theorem L_splitD {t : Tmp} {p : Prop} {dec : Decidable p} (_ : guardSlot all o = some t) (ht : ρ.get t = some (.bool (@decide p dec))) (h1 : p → JL P E n all (o :: rest) Q ((t, .bool true) :: ρ) L) (h2 : ¬ p → JL P E n all (o :: rest) Q ((t, .bool false) :: ρ) L) : JL P E n all (o :: rest) Q ρ L := JL_splitD t ht h1 h2
end
/-! ### Specifications -/
/-- Called with these values where the chunks pre hold: it returns, and K tells of what, and of the chunks behind it. All else is as it was. -/
def Does (P : Program) (E : World) (f : Nat) (args : List Value) (pre : List HProp) (K : Value → List HProp → Prop) : Prop :=
 ∀ (F : HProp) (w : World), Sat E w (pre ++ [F]) → Calls P f args.toArray w fun e w' => ∃ v L', e = .returned v ∧ K v L' ∧ Sat E w' (L' ++ [F])
theorem Does.mono {P : Program} {E : World} {f : Nat} {args : List Value} {pre : List HProp} {K K' : Value → List HProp → Prop} (h : Does P E f args pre K) (hk : ∀ v L, K v L → K' v L) : Does P E f args pre K' := fun F w hs =>
 (h F w hs).mono fun _ _ ⟨v, L', he, hK, hs'⟩ => ⟨v, L', he, hk _ _ hK, hs'⟩
theorem Does.ent {P : Program} {E : World} {f : Nat} {args : List Value} {pre pre' : List HProp} {K : Value → List HProp → Prop} (h : Does P E f args pre K) (he : ∀ (F : HProp) (w : World), Sat E w (pre' ++ [F]) → Sat E w (pre ++ [F])) : Does P E f args pre' K := fun F w hs => h F w (he F w hs)
def stars (R : List HProp) : HProp := fun E h => ∃ fr : Nat → Frag, (∀ (i : Nat) (c : HProp), R[i]? = some c → c E (fr i)) ∧ (∀ i, i < R.length → Frag.Le (fr i) h) ∧ (∀ i j, i < R.length → j < R.length → i ≠ j → Frag.Disj (fr i) (fr j))
theorem Sat.rot {E w : World} {A B : List HProp} (h : Sat E w (A ++ B)) : Sat E w (B ++ A) := by
 obtain ⟨fr, f1, f2, f3⟩ := h.own
 refine ⟨h.os, h.tape, h.output, h.size, h.old, fun i => if i < B.length then fr (i + A.length) else fr (i - B.length), ?_, ?_, ?_⟩
 ·intro i c hc
  by_cases e : i < B.length
  ·simp only [e, if_true]; rw [List.getElem?_append_left e] at hc
   exact f1 _ c (by rw [List.getElem?_append_right (by omega)]; simpa using hc)
  ·simp only [e, if_false]; rw [List.getElem?_append_right (by omega)] at hc
   exact f1 _ c (by rw [List.getElem?_append_left (List.getElem?_eq_some_iff.1 hc).1]; exact hc)
 ·intro i hi
  rw [List.length_append] at hi
  by_cases e : i < B.length
  ·simp only [e, if_true]; exact f2 _ (by rw [List.length_append]; omega)
  ·simp only [e, if_false]; exact f2 _ (by rw [List.length_append]; omega)
 ·intro i j hi hj hne
  rw [List.length_append] at hi hj
  by_cases e : i < B.length <;> by_cases e' : j < B.length <;> simp only [e, e', if_true, if_false]
  all_goals exact f3 _ _ (by rw [List.length_append]; omega) (by rw [List.length_append]; omega) (by omega)
theorem Sat.fold {E w : World} {A R : List HProp} (h : Sat E w (A ++ R)) : Sat E w (A ++ [stars R]) :=
 (h.rot.join (c := stars R) fun fr h1 h2 _ hg => ⟨fr, h1, hg, h2⟩ : Sat E w (stars R :: A)) |> fun h => Sat.rot (A := [stars R]) h
theorem Sat.unfold {E w : World} {A R : List HProp} (h : Sat E w (A ++ [stars R])) : Sat E w (A ++ R) :=
 Sat.rot (A := R) (B := A) (Sat.head (L := R) (R := A) (c := stars R) (by simpa using h.rot) fun g hg => hg)
/-- There is such a function, with a body. -/
class HasFn (P : Program) (f : Nat) : Prop where
 h : ∃ fn, P.funcs[f]? = some fn ∧ fn.body.isNone = false ∧ (fn.name == "runtime.NumGoroutine") = false
section
variable {P : Program} {E : World} {n : Nat} {ρ : Env} {L : List HProp} {dst : Option Tmp} {ty : TypeId} {pos : String} {after : Array Edge} {g : Option (Nat × Bool)}
theorem run_callFunc {f : Nat} (h : HasFn P f) (args : Array Value) (w : World) : (callFunc f args).run P w = .ok (.enter f args) w := by
 obtain ⟨fn, h1, h2, h3⟩ := h.h
 simp only [callFunc, Sem.run_bind, run_program, Result.andThen_ok, h1, h3, h2, Bool.false_eq_true, if_false, Sem.run_pure]
/-- A call: idx are the chunks that it takes, in the order of its specification; ridx the others. -/
theorem O_call {f : Nat} {xs : List Operand} {ts : Array TypeId} {vs : List Value} {K K' : Value → List HProp → Prop} {pre R : List HProp} (idx ridx : List Nat) [hf : HasFn P f] (hc : Does P E f vs pre K') (hx : ρ.evs xs = some vs)
 (hi : okIdx L.length (idx ++ ridx) = true) [hp : NormL (pick idx L) pre] [hR : NormL (pick ridx L) R]
 (hK : ∀ v L', K' v L' → K v (L' ++ R)) : JOp P E n ⟨dst, .call ⟨.value (.func f), xs.toArray, ts⟩, ty, pos, after, g⟩ K ρ L := fun a w ha hs next Q hn => by
 have h1 : Sat E w (pre ++ R) := by
  rw [← hp.h, ← hR.h]
  have := hs.pick _ hi
  rw [SL.pick, List.map_append] at this
  exact this
 have h2 := hc (stars R) w h1.fold
 unfold Oper.wp
 simp only [execOp, resolve]
 have e1 : (xs.toArray.map a.eval) = vs.toArray := by simp [← ha.evs hx]
 have e2 : a.eval (.func f) = .func (.func f) #[] #[] := rfl
 simp only [e1, e2, Deferred.ofValue, run_bind_pure, invoke, Array.empty_append, Array.append_empty]
 rw [run_callFunc hf]
 simp only [Oper.upon_enter]
 refine h2.mono ?_
 rintro e w' ⟨v, L', rfl, hk, hs'⟩
 exact hn v _ w' (hK v L' hk) hs'.unfold
/-- A call of a function value that is known. -/
theorem O_dyn {f : Nat} {x : Operand} {xs : List Operand} {ts : Array TypeId} {vs : List Value} {fs cs : Array Value} {args : List Value} {K K' : Value → List HProp → Prop} {pre R : List HProp} (idx ridx : List Nat) [hf : HasFn P f] (hxf : ρ.ev x = some (.func (.func f) fs cs)) (hx : ρ.evs xs = some vs) (hargs : fs ++ vs.toArray ++ cs = args.toArray)
 (hc : Does P E f args pre K')
 (hi : okIdx L.length (idx ++ ridx) = true) [hp : NormL (pick idx L) pre] [hR : NormL (pick ridx L) R]
 (hK : ∀ v L', K' v L' → K v (L' ++ R)) : JOp P E n ⟨dst, .call ⟨.value x, xs.toArray, ts⟩, ty, pos, after, g⟩ K ρ L := fun a w ha hs next Q hn => by
 have h1 : Sat E w (pre ++ R) := by
  rw [← hp.h, ← hR.h]
  have := hs.pick _ hi
  rw [SL.pick, List.map_append] at this
  exact this
 have h2 := hc (stars R) w h1.fold
 unfold Oper.wp
 simp only [execOp, resolve]
 have e1 : (xs.toArray.map a.eval) = vs.toArray := by simp [← ha.evs hx]
 simp only [e1, ha.ev hxf, Deferred.ofValue, run_bind_pure, invoke]
 rw [hargs, run_callFunc hf]
 simp only [Oper.upon_enter]
 refine h2.mono ?_
 rintro e w' ⟨v, L', rfl, hk, hs'⟩
 exact hn v _ w' (hK v L' hk) hs'.unfold
end
/-! ### What a function hands back -/
def rvSem (tmps : Array Value) : ResultVar → Sem Value
 | .tmp t => pure (tmps.getD t undef)
 | .cell x t => do loadVar t (← asAddr (tmps.getD x undef))
theorem results_eq (fn : Func) (tmps : Array Value) : results fn tmps = (do
 let vs ← fn.results.mapM (rvSem tmps)
 pure (if h : vs.size = 1 then vs[0] else .tuple vs)) := by
 unfold results
 congr 1
/-- One result. -/
def RV (P : Program) (E : World) (n : Nat) (r : ResultVar) (ρ : Env) (L : List HProp) (v : Value) : Prop := ∀ a w, Agrees a n ρ → Sat E w L →
 (rvSem a.tmps r).run P w = .ok v w
theorem RV_tmp {P : Program} {E : World} {n t : Nat} {ρ : Env} {L : List HProp} {v : Value} (h : ρ.get t = some v) : RV P E n (.tmp t) ρ L v := fun a w ha _ => by
 simp [rvSem, (ha.get t v h).2]
theorem RV_cell {P : Program} {E : World} {n x t b tb sz by_ : Nat} {z : Value} {ρ : Env} {L : List HProp} {cs : List Value} {d : TypeDesc} (i : Nat) [u : TyU P t d] [k : TyI P t sz z by_] (h : ρ.get x = some (.pointer (some ⟨b, 0, none⟩))) (hi : L[i]? = some (cel b cs tb)) (hd : isAggD d = true) (hl : cs.length = sz) :
 RV P E n (.cell x t) ρ L (.agg cs.toArray) := fun a w ha hs => by
 obtain ⟨r, hr, hsz, _⟩ := k.get
 have h1 : (loadCells ⟨b, 0, none⟩ sz).run P w = .ok cs.toArray w := run_cells _ _ (fun j u hu => by rw [addr_add, Nat.zero_add]; exact hs.cel_cell hi j u hu) _ hl.symm
 simp [rvSem, (ha.get x _ h).2, asAddr, loadVar, run_isAgg u.h, hd, sizeOf, typeInfo, hr, hsz, h1]
inductive RVs (P : Program) (E : World) (n : Nat) (ρ : Env) (L : List HProp) : List ResultVar → List Value → Prop where
 | nil : RVs P E n ρ L [] []
 | cons {r : ResultVar} {v : Value} {rs : List ResultVar} {vs : List Value} (h : RV P E n r ρ L v) (t : RVs P E n ρ L rs vs) : RVs P E n ρ L (r :: rs) (v :: vs)
def oneOf : List Value → Value
 | [v] => v
 | vs => .tuple vs.toArray
theorem RVs.run {P : Program} {E : World} {n : Nat} {ρ : Env} {L : List HProp} {rs : List ResultVar} {vs : List Value} (h : RVs P E n ρ L rs vs) (fn : Func) (hf : fn.results = rs.toArray) (a : Act) (w : World) (ha : Agrees a n ρ) (hs : Sat E w L) : (results fn a.tmps).run P w = .ok (oneOf vs) w := by
 have key : ∀ {rs : List ResultVar} {vs : List Value}, RVs P E n ρ L rs vs → ∀ acc : List Value, (rs.foldlM (m := Sem) (fun (acc : Array Value) r => do
  let v ← rvSem a.tmps r
  pure (acc.push v)) acc.toArray).run P w = .ok (acc ++ vs).toArray w := by
  intro rs vs h
  induction h with
  | nil => intro acc; simp
  | @cons r v rs vs hr _ ih =>
   intro acc
   simp only [List.foldlM_cons, Sem.run_bind, hr a w ha hs, Result.andThen_ok, Sem.run_pure]
   have := ih (acc ++ [v])
   simp only [List.push_toArray]
   rw [this]
   simp
 have := key h []
 simp only [List.nil_append] at this
 rw [results_eq, hf, Array.mapM_eq_foldlM, Sem.run_bind]
 have e : (Array.foldlM (m := Sem) (fun (acc : Array Value) r => do
  let v ← rvSem a.tmps r
  pure (acc.push v)) #[] rs.toArray).run P w = .ok vs.toArray w := by
  rw [List.foldlM_toArray]
  exact this
 simp only [bind_pure_comp] at e ⊢
 rw [e]
 simp only [Result.andThen_ok, Sem.run_pure]
 congr 1
 match vs with
 | [] => rfl
 | [v] => rfl
 | v :: w :: r => simp [oneOf]
def retQ (P : Program) (E : World) (n : Nat) (rs : List ResultVar) (K : Value → List HProp → Prop) (F : HProp) : Post
 | .normal, ρ, L | .ret, ρ, L => ∃ vs L', RVs P E n ρ L rs vs ∧ K (oneOf vs) L' ∧ Ent L (L' ++ [F])
 | _, _, _ => False
theorem retQ_ret {P : Program} {E : World} {n : Nat} {rs : List ResultVar} {K : Value → List HProp → Prop} {F : HProp} {ρ : Env} {L : List HProp} (vs : List Value) (L' : List HProp) (h1 : RVs P E n ρ L rs vs) (h2 : K (oneOf vs) L') (h3 : Ent L (L' ++ [F])) : retQ P E n rs K F .ret ρ L := ⟨vs, L', h1, h2, h3⟩
theorem retQ_normal {P : Program} {E : World} {n : Nat} {rs : List ResultVar} {K : Value → List HProp → Prop} {F : HProp} {ρ : Env} {L : List HProp} (vs : List Value) (L' : List HProp) (h1 : RVs P E n ρ L rs vs) (h2 : K (oneOf vs) L') (h3 : Ent L (L' ++ [F])) : retQ P E n rs K F .normal ρ L := ⟨vs, L', h1, h2, h3⟩
def argEnv : Nat → List Value → Env
 | _, [] => []
 | i, v :: r => (i, v) :: argEnv (i + 1) r
theorem argEnv_get : ∀ (vs : List Value) (i t : Nat) (v : Value), Env.get (argEnv i vs) t = some v → i ≤ t ∧ vs[t - i]? = some v
 | [], i, t, v, h => by simp [argEnv, Env.get] at h
 | u :: r, i, t, v, h => by
  simp only [argEnv, Env.get] at h
  cases e : Nat.beq i t with
  | true => rw [e] at h; simp only [cond_true, Option.some.injEq] at h; subst h; rw [← Nat.eq_of_beq_eq_true e]; simp
  | false =>
   rw [e] at h
   have hne := Nat.ne_of_beq_eq_false e
   obtain ⟨h1, h2⟩ := argEnv_get r (i + 1) t v h
   exact ⟨by omega, by rw [show t - i = (t - (i + 1)) + 1 by omega]; simpa using h2⟩
/-- A function, by a walk of its body. -/
theorem Does.of {P : Program} {E : World} {f n : Nat} {fn : Func} {c : Code} {args : List Value} {pre : List HProp} {K : Value → List HProp → Prop} {rs : List ResultVar} (hf : P.funcs[f]? = some fn) (hb : fn.body = some c) (hn : fn.ntmps = n) (hr : fn.results = rs.toArray) (hl : Nat.ble args.length n = true)
 (h : ∀ F, J P E n c (retQ P E n rs K F) (argEnv 0 args) (pre ++ [F])) : Does P E f args pre K := fun F w hs => by
 have hl := Nat.le_of_ble_eq_true hl
 refine calls_of_wp hf hb ?_
 have ha : Agrees { tmps := args.toArray ++ Array.replicate (fn.ntmps - args.toArray.size) undef, defers := [] } n (argEnv 0 args) := by
  refine ⟨rfl, by simp [hn]; omega, fun t v hv => ?_⟩
  obtain ⟨_, h2⟩ := argEnv_get args 0 t v hv
  have hlt := (List.getElem?_eq_some_iff.1 h2).1
  refine ⟨by omega, ?_⟩
  simp only [Nat.sub_zero] at h2 hlt
  rw [List.getElem?_eq_getElem hlt] at h2
  simp [Array.getD_eq_getD_getElem?, Array.getElem?_append, hlt]
  exact Option.some.inj h2
 refine wp_mono (h F _ w ha hs) fun e a' w' ⟨ρ', L', hQ, ha', hs'⟩ => ?_
 cases e with
 | normal =>
  obtain ⟨vs, L'', h1, h2, h3⟩ := hQ
  exact Xeh
 | ret =>
  obtain ⟨vs, L'', h1, h2, h3⟩ := hQ
  exact Xeh
 | exit id => exact hQ.elim
 | goto l => exact hQ.elim
 | panic c => exact hQ.elim
 | outgrown => exact hQ.elim
end Go.SL
