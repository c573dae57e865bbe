/- Part 6 of the texts below the row: Sl16, Sl18, Cmp, Sl17, Sl21, TreeP1, TreeP2. -/
import Derived.Scope
import Derived.KernelRfl
import Derived.Lib.Overlaps
import Derived.Laws.Externs
import Derived.Lib.Bytealg
import Derived.Test.YtgifbeecmidciaaGreatM5
/- Many chunks as one: one taken out, one put in. -/
set_option autoImplicit false
namespace Go.SL
section
variable {E w : World}
def swap01 : Nat → Nat
 | 0 => 1
 | 1 => 0
 | i + 2 => i + 2
theorem swap01_inj {i j : Nat} (h : swap01 i = swap01 j) : i = j := by
 match i, j with
 | 0, 0 => rfl
 | 0, 1 => simp [swap01] at h
 | 0, j + 2 => simp [swap01] at h
 | 1, 0 => simp [swap01] at h
 | 1, 1 => rfl
 | 1, j + 2 => simp [swap01] at h
 | i + 2, 0 => simp [swap01] at h
 | i + 2, 1 => simp [swap01] at h
 | i + 2, j + 2 => simpa [swap01] using h
theorem swap01_get {x y : HProp} {R : List HProp} (i : Nat) : (x :: y :: R)[swap01 i]? = (y :: x :: R)[i]? := by
 match i with
 | 0 => rfl
 | 1 => rfl
 | i + 2 => rfl
theorem swap01_lt {i n : Nat} (h : i < n + 2) : swap01 i < n + 2 := by
 match i with
 | 0 => simp [swap01]
 | 1 => simp [swap01]
 | i + 2 => exact h
theorem Sat.two {A L : List HProp} {x y : HProp} (h : Sat E w (A ++ x :: y :: L)) : Sat E w (A ++ y :: x :: L) := by
 have h1 : Sat E w (x :: y :: (L ++ A)) := by simpa using Sat.rot (A := A) h
 have h2 : Sat E w (y :: x :: (L ++ A)) := by
  obtain ⟨fr, f1, f2, f3⟩ := h1.own
  refine ⟨h1.os, h1.tape, h1.output, h1.size, h1.old, fun i => fr (swap01 i), ?_, ?_, ?_⟩
  ·intro i c hc
   exact f1 (swap01 i) c (by rw [swap01_get]; exact hc)
  ·intro i hi
   exact f2 (swap01 i) (by simp only [List.length_cons] at hi ⊢; exact swap01_lt hi)
  ·intro i j hi hj hne
   exact f3 _ _ (by simp only [List.length_cons] at hi ⊢; exact swap01_lt hi) (by simp only [List.length_cons] at hj ⊢; exact swap01_lt hj) fun h => hne (swap01_inj h)
 exact Sat.rot (A := y :: x :: L) (B := A) (by simpa using h2)
theorem Sat.perm {L L' : List HProp} (p : L.Perm L') : ∀ {A : List HProp}, Sat E w (A ++ L) → Sat E w (A ++ L') := by
 induction p with
 | nil => intro A h; exact h
 | cons x _ ih => intro A h; have := ih (A := A ++ [x]) (by simpa using h); simpa using this
 | swap x y l => intro A h; exact h.two
 | trans _ _ ih1 ih2 => intro A h; exact ih2 (ih1 h)
theorem Sat.stars_out {L R R' : List HProp} {c : HProp} (p : R.Perm (c :: R')) (h : Sat E w (stars R :: L)) : Sat E w (c :: stars R' :: L) := by
 have h1 : Sat E w (L ++ R) := Sat.unfold (A := L) (by simpa using Sat.rot (A := [stars R]) h)
 have h2 : Sat E w ((L ++ [c]) ++ R') := by have := h1.perm p; simpa using this
 have h3 : Sat E w ((L ++ [c]) ++ [stars R']) := Sat.fold h2
 have h4 : Sat E w ([c, stars R'] ++ L) := Sat.rot (A := L) (by simpa using h3)
 exact h4
theorem Sat.stars_in {L R R' : List HProp} {c : HProp} (p : (c :: R').Perm R) (h : Sat E w (c :: stars R' :: L)) : Sat E w (stars R :: L) := by
 have h1 : Sat E w ((L ++ [c]) ++ [stars R']) := by have := Sat.rot (A := [c, stars R']) (B := L) h; simpa using this
 have h2 : Sat E w ((L ++ [c]) ++ R') := Sat.unfold h1
 have h3 : Sat E w (L ++ R) := Sat.perm p (A := L) (by simpa using h2)
 have h4 : Sat E w (L ++ [stars R]) := Sat.fold h3
 exact Sat.rot (A := L) h4
theorem Ent.stars_out {L R R' : List HProp} {c : HProp} (p : R.Perm (c :: R')) : Ent (stars R :: L) (c :: stars R' :: L) := fun _ _ h => h.stars_out p
theorem Ent.stars_in {L R R' : List HProp} {c : HProp} (p : (c :: R').Perm R) : Ent (c :: stars R' :: L) (stars R :: L) := fun _ _ h => h.stars_in p
theorem Ent.stars_nil {L : List HProp} : Ent L (stars [] :: L) := fun _ _ h => h.lay fun _ => ⟨fun _ _ => none, by simp, by simp, by simp⟩
/-- .. of a list of things: the one behind, and one in the middle. -/
theorem Ent.last_out {α : Type} {L : List HProp} (f : α → HProp) (l : List α) (x : α) : Ent (stars ((l ++ [x]).map f) :: L) (f x :: stars (l.map f) :: L) := Ent.stars_out (by
 rw [List.map_append]; exact List.perm_append_comm)
theorem Ent.last_in {α : Type} {L : List HProp} (f : α → HProp) (l : List α) (x : α) : Ent (f x :: stars (l.map f) :: L) (stars ((l ++ [x]).map f) :: L) := Ent.stars_in (by
 rw [List.map_append]; exact List.perm_append_comm (l₁ := [f x]))
theorem Ent.mid_out {α : Type} {L : List HProp} (f : α → HProp) (l : List α) (x : α) (m : List α) : Ent (stars ((l ++ x :: m).map f) :: L) (f x :: stars ((l ++ m).map f) :: L) := Ent.stars_out (by
 rw [List.map_append, List.map_append, List.map_cons]; exact List.perm_middle)
theorem Ent.mid_in {α : Type} {L : List HProp} (f : α → HProp) (l : List α) (x : α) (m : List α) : Ent (f x :: stars ((l ++ m).map f) :: L) (stars ((l ++ x :: m).map f) :: L) := Ent.stars_in (by
 rw [List.map_append, List.map_append, List.map_cons]; exact List.perm_middle.symm)
end
end Go.SL
/- A scope that is gone through without a jump. -/
set_option autoImplicit false
namespace Go.SL
def scopeQ (Q : Post) : Post
 | .goto _, _, _ => False
 | e, ρ, L => Q e ρ L
section
variable {P : Program} {E : World} {n : Nat} {Q : Post} {ρ : Env} {L : List HProp} {c : Code}
theorem scopeQ_noP (h : ∀ c ρ L, ¬ Q (.panic c) ρ L) : ∀ d ρ L, ¬ scopeQ Q (.panic d) ρ L := fun d ρ L h' => h d ρ L h'
end
end Go.SL
/- Short words for the steps that a walk takes most often. -/
set_option autoImplicit false
namespace Go.SL
section
variable {P : Program} {E : World} {n : Nat} {Q : Post} {ρ : Env} {L H : List HProp} {o : Oper} {all rest : List Oper} {c d : Code}
theorem Lq {d : Tmp} {v : Value} (hq : QOp P E n o ρ L v) (h : JL P E n all rest Q ((d, v) :: ρ) L) (hd : o.dst = some d := by exact rfl) (hn : Nat.blt d n = true := by exact rfl) (hg : guardOk all ρ o true = true := by exact rfl) : JL P E n all (o :: rest) Q ρ L := L_q hq hd hn hg h
theorem Sq {quiet : List Nat} {rest : Sched} {i : Nat} {d : Tmp} {v : Value} (hH : Ent L H) (ho : all[i]? = some o) (hq : QOp P E n o ρ H v) (h : JS P E n all quiet Q rest H ((d, v) :: ρ) L) (hd : o.dst = some d := by exact rfl) (hn : Nat.blt d n = true := by exact rfl) (hg : guardOk all ρ o true = true := by exact rfl) : JS P E n all quiet Q (.quiet i rest) H ρ L := S_q hH ho hq hd hn hg h
theorem Ln (h : J P E n c Q ρ L) : JL P E n all [] (seqQ P E n c Q) ρ L := JL_nil (seqQ_normal h)
theorem Sr {id : Nat} {l : List Oper} (h : JL P E n l l (seqQ P E n d Q) ρ L) : J P E n (.seq (.region id l.toArray false) d) Q ρ L := J_seq (J_region h)
theorem DL {id : Nat} {l : List Oper} (quiet : List Nat) (sched : Sched) (hm : P.follows .mixedOrders = true) (h : JS P E n l quiet Q sched L ρ L) (hsel : Region.noSelect l.toArray = true := by kernel_rfl) (ho : okSched l.toArray quiet l.toArray.size sched (Array.replicate l.toArray.size false) = true := by kernel_rfl)
    (hQ : ∀ c ρ L, ¬ Q (.panic c) ρ L := by repeat (first | exact retQ_noP | refine seqQ_noP ?_ | refine blockQ_noP ?_ | refine loopQ_noP ?_ | refine scopeQ_noP ?_ | (intro _ _ _ h; cases h.1))) : J P E n (.region id l.toArray true) Q ρ L := J_drawL quiet sched hm hsel ho hQ h
theorem DH {id : Nat} {l : List Oper} (idx : List Nat) (quiet : List Nat) (sched : Sched) (hm : P.follows .mixedOrders = true) [NormL (pick idx L) H] (h : JS P E n l quiet Q sched H ρ L) (hsel : Region.noSelect l.toArray = true := by kernel_rfl) (ho : okSched l.toArray quiet l.toArray.size sched (Array.replicate l.toArray.size false) = true := by kernel_rfl)
    (hQ : ∀ c ρ L, ¬ Q (.panic c) ρ L := by repeat (first | exact retQ_noP | refine seqQ_noP ?_ | refine blockQ_noP ?_ | refine loopQ_noP ?_ | refine scopeQ_noP ?_ | (intro _ _ _ h; cases h.1))) : J P E n (.region id l.toArray true) Q ρ L := J_drawH idx quiet sched hm hsel ho hQ h
end
end Go.SL
/- What is done in place: an append onto a beginning, a clear behind what is there. -/
set_option autoImplicit false
namespace Go.SL
section
variable {α : Type} {τ : Ty α} {P : Program} {E : World} {n : Nat} {ρ : Env} {L : List HProp} {dst : Option Tmp} {ty : TypeId} {pos : String} {after : Array Edge} {g : Option (Nat × Bool)}
theorem Q_slLHc {t sz by_ : Nat} {z : Value} {x a b : Operand} {S : SV} {k k' : IntKind} {i j : Int} (lo hi : Nat) [u : TyU P t (.slice τ.e)] [v : TyI P τ.e sz z by_] (hx : ρ.ev x = some S.v) (ha : ρ.ev a = some (.int k i)) (hb : ρ.ev b = some (.int k' j))
 (hi' : i = (lo : Int)) (hj : j = (hi : Int)) (h1 : lo ≤ hi) (h2 : hi ≤ S.c) (hsz : sz = τ.sz) : QOp P E n ⟨dst, .slice t x (some a) (some b) none, ty, pos, after, g⟩ ρ L (S.sub τ.sz lo hi).v := fun c w hc hs => by
 obtain ⟨r, hr, hs', _⟩ := v.get
 subst hi' hj
 simp only [execOp, hc.ev hx, Option.map_some, hc.ev ha, hc.ev hb, Option.map_none]
 have e1 : (lo : Int) ≤ hi := by omega
 have e2 : (hi : Int) ≤ S.c := by omega
 simp [Instr.sliceAt, run_underlying u.h, Instr.slice, Instr.sliceBounds, run_sliceBound, e1, e2, sizeOf, typeInfo, hr, hs', hsz, SV.sub]
theorem Q_slHc {t sz by_ : Nat} {z : Value} {x b : Operand} {S : SV} {k' : IntKind} {j : Int} (hi : Nat) [u : TyU P t (.slice τ.e)] [v : TyI P τ.e sz z by_] (hx : ρ.ev x = some S.v) (hb : ρ.ev b = some (.int k' j))
 (hj : j = (hi : Int)) (h2 : hi ≤ S.c) : QOp P E n ⟨dst, .slice t x none (some b) none, ty, pos, after, g⟩ ρ L (S.sub τ.sz 0 hi).v := fun c w hc hs => by
 obtain ⟨r, hr, hs', _⟩ := v.get
 subst hj
 simp only [execOp, hc.ev hx, Option.map_some, hc.ev hb, Option.map_none]
 have e2 : (hi : Int) ≤ S.c := by omega
 simp [Instr.sliceAt, run_underlying u.h, Instr.slice, Instr.sliceBounds, run_sliceBound, e2, sizeOf, typeInfo, hr, SV.sub]
theorem Q_slLc {t sz by_ : Nat} {z : Value} {x a : Operand} {S : SV} {k : IntKind} {i : Int} (lo m : Nat) [u : TyU P t (.slice τ.e)] [v : TyI P τ.e sz z by_] (hx : ρ.ev x = some S.v) (ha : ρ.ev a = some (.int k i))
 (hi' : i = (lo : Int)) (hn : S.n = m) (h1 : lo ≤ m) (hsz : sz = τ.sz) : QOp P E n ⟨dst, .slice t x (some a) none none, ty, pos, after, g⟩ ρ L (S.sub τ.sz lo m).v := fun c w hc hs => by
 obtain ⟨r, hr, hs', _⟩ := v.get
 subst hi'
 simp only [execOp, hc.ev hx, Option.map_some, hc.ev ha, Option.map_none]
 have e1 : (lo : Int) ≤ (m : Int) := by omega
 simp [Instr.sliceAt, run_underlying u.h, Instr.slice, Instr.sliceBounds, run_sliceBound, e1, sizeOf, typeInfo, hr, hs', hsz, SV.sub, hn]
/-- s[lo:hi:max] -/
theorem Q_sl3 {t sz by_ : Nat} {z : Value} {x a b c : Operand} {S : SV} {k k' k'' : IntKind} {i j m : Int} (lo hi mx : Nat) [u : TyU P t (.slice τ.e)] [v : TyI P τ.e sz z by_] (hx : ρ.ev x = some S.v) (ha : ρ.ev a = some (.int k i)) (hb : ρ.ev b = some (.int k' j)) (hc' : ρ.ev c = some (.int k'' m))
 (hi' : i = (lo : Int)) (hj : j = (hi : Int)) (hm : m = (mx : Int)) (h1 : lo ≤ hi) (h2 : hi ≤ mx) (h3 : mx ≤ S.c) (hsz : sz = τ.sz) : QOp P E n ⟨dst, .slice t x (some a) (some b) (some c), ty, pos, after, g⟩ ρ L (.slice (if mx = lo then S.a else S.a.map (·.add (lo * τ.sz))) (hi - lo) (mx - lo)) := fun c w hc hs => by
 obtain ⟨r, hr, hs', _⟩ := v.get
 subst hi' hj hm
 simp only [execOp, hc.ev hx, Option.map_some, hc.ev ha, hc.ev hb, hc.ev hc']
 have e1 : (lo : Int) ≤ hi := by omega
 have e2 : (hi : Int) ≤ mx := by omega
 have e3 : (mx : Int) ≤ S.c := by omega
 simp [Instr.sliceAt, run_underlying u.h, Instr.slice, Instr.sliceBounds, run_sliceBound, e1, e2, e3, sizeOf, typeInfo, hr, hs', hsz]
/-- append(s[:k], t...), where there is room. -/
theorem O_appIn (i k : Nat) {K : Value → List HProp → Prop} {t t' sz by_ : Nat} {z : Value} {x y : Operand} {S T : SV} {l m : List α} [u : TyU P t (.slice τ.e)] [u' : TyU P t' (.slice τ.e)] [v : TyI P τ.e sz z by_] (hL : L[i]? = some (slc τ true S l)) (hT : ∀ w, Sat E w L → Rd τ w T m)
 (hx : ρ.ev x = some (S.sub τ.sz 0 k).v) (hy : ρ.ev y = some T.v) (hsz : sz = τ.sz) (hk : k ≤ l.length) (hroom : k + m.length ≤ S.c)
 (hK : K (SV.v ⟨(S.sub τ.sz 0 k).a, k + m.length, S.c⟩) (L.set i (slc τ true ⟨(S.sub τ.sz 0 k).a, k + m.length, S.c⟩ (l.take k ++ m)))) : JOp P E n ⟨dst, .call ⟨.builtin .append, #[x, y], #[t, t']⟩, ty, pos, after, g⟩ K ρ L := fun a w ha hs next Q hn => by
 have hR := hT w hs
 have hs2 := hs.sub_at i hL 0 k (Nat.zero_le _) hk
 have hlt : i < L.length := (List.getElem?_eq_some_iff.1 hL).1
 have hL2 : (L.set i (slc τ true (S.sub τ.sz 0 k) ((l.take k).drop 0)))[i]? = some (slc τ true (S.sub τ.sz 0 k) (l.take k)) := by rw [List.getElem?_set_self hlt]; rfl
 obtain ⟨r, hr, hrs, hrz, hrb⟩ := v.get
 have hSn : (S.sub τ.sz 0 k).n = k := by simp [SV.sub]
 have hSc : (S.sub τ.sz 0 k).c = S.c := by simp [SV.sub]
 have hlen : (Builtin.lenOf T.v).run P w = .ok m.length w := by simp [Builtin.lenOf, hR.1]
 have hfc : (Builtin.firstCells sz m.length T.v).run P w = .ok (τ.flat m).toArray w := by
  rcases hR.cells with h0 | ⟨b, hb, hc⟩
  ·have hl0 : m.length = 0 := by
    have := τ.flat_length m
    rw [h0] at this
    have hp := τ.pos
    rcases Nat.eq_zero_or_pos m.length with h | h
    ·exact h
    ·have := Nat.mul_le_mul_right τ.sz h; simp only [List.length_nil] at *; omega
   rw [h0, hl0]
   cases hS : T.a <;> simp [SV.v, hS, Builtin.firstCells, loadCells, loadCellsFrom]
  ·simp only [SV.v, hb, Builtin.firstCells]
   exact run_cells b (τ.flat m) (fun j u hu => hc j u hu) _ (by rw [τ.flat_length, hsz])
 generalize hU : S.sub τ.sz 0 k = U at *
 obtain ⟨p, ⟨hn', hcap, h⟩, hw⟩ := hs2.at hL2
 have hroom' : U.n + m.length ≤ U.c := by omega
 have key : ∃ w', (Builtin.append_ #[t, t'] ty #[U.v, T.v]).run P w = .ok (SV.v ⟨U.a, k + m.length, S.c⟩) w' ∧ Sat E w' (L.set i (slc τ true ⟨U.a, k + m.length, S.c⟩ (l.take k ++ m))) := by
  rcases h with ⟨hno, h0⟩ | ⟨_, _, hf0, _⟩ | ⟨b, o, hS, _, cs, fr, hp, hfr, hlen', hcs, hmx⟩
  rotate_left
  ·cases hf0
  rotate_left
  ·have hm0 : m.length = 0 := by omega
   have hk0 : k = 0 := by omega
   have hm : m = [] := List.eq_nil_of_length_eq_zero hm0
   refine ⟨w, ?_, ?_⟩
   ·have hk1 : k + m.length ≤ S.c := hroom
    simp only [Builtin.append_, SV.v, hno]
    rw [hSn, hSc]
    simp [run_underlying u.h, run_underlying u'.h, sizeOf, typeInfo, hr, hrs, hlen, hk1, hfc]
   ·have e : (⟨U.a, k + m.length, S.c⟩ : SV) = U := by cases U; simp at hSn hSc ⊢; omega
    rw [e, hm, List.append_nil]
    have := hs2
    simpa using this
  ·have hb' := (hw b _ hp).2
   have hmul : (U.n + m.length) * τ.sz ≤ U.c * τ.sz := Nat.mul_le_mul_right _ hroom'
   rw [Nat.add_mul] at hmul
   obtain ⟨w', hst, ht1⟩ := run_storeCells (P := P) b τ.e fr (τ.flat m) (o + U.n * τ.sz) 0 cs w hb' hfr (by rw [τ.flat_length]; omega) (τ.flat_one m)
   refine ⟨w', ?_, ?_⟩
   ·have hst' : (storeCells ((⟨b, o, none⟩ : Addr).add (U.n * sz)) (τ.flat m)).run P w = .ok () w' := by rw [addr_add, hsz]; exact hst
    have hk1 : k + m.length ≤ S.c := hroom
    simp only [Builtin.append_, SV.v, hS]
    rw [hSn, hSc] at *
    simp [run_underlying u.h, run_underlying u'.h, sizeOf, typeInfo, hr, hrs, hlen, hk1, hfc]
    rw [hst']
    simp
   ·have hset : (L.set i (slc τ true U ((l.take k).drop 0))).set i (slc τ true ⟨U.a, k + m.length, S.c⟩ (l.take k ++ m)) = L.set i (slc τ true ⟨U.a, k + m.length, S.c⟩ (l.take k ++ m)) := by rw [List.set_set]
    rw [← hset]
    refine hs2.turn_at hL2 (fun p' ⟨_, _, hp2⟩ _ => ?_) ht1
    have hp' : ∃ o', p' b = some o' := by
     rcases hp2 with ⟨hno, _⟩ | ⟨_, _, hf0, _⟩ | ⟨b2, o2, hS2, _, cs2, fr2, hb2, _⟩
     ·rw [hno] at hS; cases hS
     ·cases hf0
     ·rw [hS2] at hS; simp only [Option.some.injEq, Addr.mk.injEq] at hS; obtain ⟨rfl, _⟩ := hS; exact ⟨_, hb2⟩
    have hfl := τ.flat_length m
    refine ⟨hp', by simp; omega, by simp; omega, .inr (.inr ⟨b, o, hS, rfl, cs.take (o + U.n * τ.sz) ++ τ.flat m ++ cs.drop (o + U.n * τ.sz + (τ.flat m).length), fr, by simp, ?_, ?_, ?_, by rw [← hSc]; exact hmx⟩)⟩
    ·have : (cs.take (o + U.n * τ.sz) ++ τ.flat m ++ cs.drop (o + U.n * τ.sz + (τ.flat m).length)).length = cs.length := by simp; omega
     rw [this]; exact hfr
    ·have : (cs.take (o + U.n * τ.sz) ++ τ.flat m ++ cs.drop (o + U.n * τ.sz + (τ.flat m).length)).length = cs.length := by simp; omega
     rw [this, ← hSc]; exact hlen'
    ·rw [τ.flat_append, ← hcs]
     have := splice_window cs o (U.n * τ.sz) (τ.flat m) (by omega)
     rw [hfl, ← Nat.add_mul] at this
     rw [hfl]
     rw [← hSn]
     exact this
 obtain ⟨w', hr', hs'⟩ := key
 unfold Oper.wp
 simp only [execOp, resolve]
 have e1 : (Array.map a.eval #[x, y]) = #[U.v, T.v] := by simp [ha.ev hx, ha.ev hy]
 simp only [run_bind_pure, invoke, e1, builtin]
 simp only [Sem.run_bind, hr', Result.andThen_ok, Sem.run_pure]
 exact hn _ _ w' hK hs'
theorem zeroCells_one {z : Array Value} {m : Nat} (h : ∀ v ∈ z.toList, v.oneCell' = true) (hz : 0 < z.size) : ∀ v ∈ (Builtin.zeroCells z m).toList, v.oneCell' = true := by
 intro v hv
 simp only [Builtin.zeroCells, Array.toList_map, List.mem_map] at hv
 obtain ⟨i, _, rfl⟩ := hv
 have hlt : i % z.size < z.size := Nat.mod_lt _ hz
 rw [getElem!_pos z _ hlt]
 exact h _ (Array.getElem_mem_toList hlt)
/-- clear(s[lo:hi]) behind what is there. -/
theorem O_clear (i lo hi : Nat) {K : Value → List HProp → Prop} {t sz by_ : Nat} {z : Value} {x : Operand} {S : SV} {l : List α} [u : TyU P t (.slice τ.e)] [v : TyI P τ.e sz z by_] (hL : L[i]? = some (slc τ true S l))
 (hx : ρ.ev x = some (S.sub τ.sz lo hi).v) (hsz : sz = τ.sz) (hz : z.cells.size = sz) (h1 : ∀ v ∈ z.cells.toList, v.oneCell' = true) (hlo : l.length ≤ lo) (hlh : lo ≤ hi) (hhi : hi ≤ S.c)
 (hK : K (.tuple #[]) L) : JOp P E n ⟨dst, .call ⟨.builtin .clear, #[x], #[t]⟩, ty, pos, after, g⟩ K ρ L := fun a w ha hs next Q hn => by
 obtain ⟨r, hr, hrs, hrz, hrb⟩ := v.get
 obtain ⟨p, ⟨hn', hcap, h⟩, hw⟩ := hs.at hL
 have key : ∃ w', (Builtin.clear_ #[t] ty #[(S.sub τ.sz lo hi).v]).run P w = .ok (.tuple #[]) w' ∧ Sat E w' L := by
  have hset : L.set i (slc τ true S l) = L := List.ext_getElem? fun j => by
   rw [List.getElem?_set]
   by_cases e : i = j
   ·subst e; rw [hL]; simp [(List.getElem?_eq_some_iff.1 hL).1]
   ·simp [e]
  by_cases he : hi = lo
  ·refine ⟨w, ?_, hs⟩
   simp only [Builtin.clear_, SV.v, SV.sub, he, Nat.sub_self]
   generalize (if S.c = lo then S.a else Option.map (fun x => x.add (lo * τ.sz)) S.a) = q
   cases q <;> simp [run_underlying u.h]
  ·rcases h with ⟨hno, h0⟩ | ⟨_, _, hf0, _⟩ | ⟨b, o, hS, _, cs, fr, hp, hfr, hlen', hcs, hmx⟩
   ·refine ⟨w, ?_, hs⟩
    simp only [Builtin.clear_, SV.v, SV.sub, hno]
    simp [run_underlying u.h]
   ·cases hf0
   ·have hb' := (hw b _ hp).2
    have hzl : (Builtin.zeroCells z.cells (hi - lo)).toList.length = (hi - lo) * τ.sz := by rw [Array.length_toList, size_zeroCells, hz, hsz]
    have hm1 : lo * τ.sz + (hi - lo) * τ.sz = hi * τ.sz := by rw [← Nat.add_mul]; congr 1; omega
    have hm2 : hi * τ.sz ≤ S.c * τ.sz := Nat.mul_le_mul_right _ hhi
    have hm3 : S.n * τ.sz ≤ lo * τ.sz := Nat.mul_le_mul_right _ (by omega)
    obtain ⟨w', hst, ht1⟩ := run_storeCells (P := P) b τ.e fr (Builtin.zeroCells z.cells (hi - lo)).toList (o + lo * τ.sz) 0 cs w hb' hfr (by rw [hzl]; omega) (zeroCells_one h1 (by rw [hz, hsz]; exact τ.pos))
    refine ⟨w', ?_, ?_⟩
    ·have hst' : (storeCells (⟨b, o + lo * τ.sz, none⟩ : Addr) (Builtin.zeroCells z.cells (hi - lo)).toList).run P w = .ok () w' := hst
     have hne : S.c ≠ lo := by omega
     obtain ⟨q, hq⟩ : ∃ q, hi - lo = q + 1 := ⟨hi - lo - 1, by omega⟩
     simp only [Builtin.clear_, SV.v, SV.sub, if_neg hne, hS, Option.map_some, addr_add]
     rw [hq] at hst' ⊢
     simp [run_underlying u.h, zeroValue, typeInfo, hr, hrz]
     rw [hst']
     simp
    ·rw [← hset]
     refine hs.turn_at hL (fun p' ⟨_, _, hp2⟩ _ => ?_) ht1
     have hp' : ∃ o', p' b = some o' := by
      rcases hp2 with ⟨hno, _⟩ | ⟨_, _, hf0, _⟩ | ⟨b2, o2, hS2, _, cs2, fr2, hb2, _⟩
      ·rw [hno] at hS; cases hS
      ·cases hf0
      ·rw [hS2] at hS; simp only [Option.some.injEq, Addr.mk.injEq] at hS; obtain ⟨rfl, _⟩ := hS; exact ⟨_, hb2⟩
     have hl3 : (cs.take (o + lo * τ.sz) ++ (Builtin.zeroCells z.cells (hi - lo)).toList ++ cs.drop (o + lo * τ.sz + (Builtin.zeroCells z.cells (hi - lo)).toList.length)).length = cs.length := by
      simp only [List.length_append, List.length_take, List.length_drop, hzl]; omega
     refine ⟨hp', hn', hcap, .inr (.inr ⟨b, o, hS, rfl, cs.take (o + lo * τ.sz) ++ (Builtin.zeroCells z.cells (hi - lo)).toList ++ cs.drop (o + lo * τ.sz + (Builtin.zeroCells z.cells (hi - lo)).toList.length), fr, by simp, ?_, ?_, ?_, hmx⟩)⟩
     ·rw [hl3]; exact hfr
     ·rw [hl3]; exact hlen'
     ·rw [← hcs, List.append_assoc, List.drop_append, List.take_append]
      have hl4 : ((cs.take (o + lo * τ.sz)).drop o).length = lo * τ.sz := by simp; omega
      rw [hl4, show S.n * τ.sz - lo * τ.sz = 0 by omega, List.take_zero, List.append_nil, List.drop_take, List.take_take]
      congr 1; omega
 obtain ⟨w', hr', hs'⟩ := key
 unfold Oper.wp
 simp only [execOp, resolve]
 have e1 : (Array.map a.eval #[x]) = #[(S.sub τ.sz lo hi).v] := by simp [ha.ev hx]
 simp only [run_bind_pure, invoke, e1, builtin]
 simp only [Sem.run_bind, hr', Result.andThen_ok, Sem.run_pure]
 exact hn _ _ w' hK hs'
end
end Go.SL
/- A slice's capacity; a copy; an append of zeros; what an insertion asks of two slices. -/
set_option autoImplicit false
namespace Go.SL
section
variable {α : Type} {τ : Ty α} {P : Program} {E : World} {n : Nat} {ρ : Env} {L : List HProp} {dst : Option Tmp} {ty : TypeId} {pos : String} {after : Array Edge} {g : Option (Nat × Bool)}
theorem Q_capV {t e : Nat} {x : Operand} {S : SV} [u : TyU P t (.slice e)] (hx : ρ.ev x = some S.v) : QOp P E n ⟨dst, .call ⟨.builtin .cap, #[x], #[t]⟩, ty, pos, after, g⟩ ρ L (.int .i64 (S.c : Int)) := fun a w ha hs =>
 run_builtin (args := [x]) (vs := [S.v]) a w ha (by simp [Env.evs, hx]) (fun cs => by simp [builtin, Builtin.cap_, run_underlying u.h, goInt])
theorem zeros_flat {z : Value} {sz : Nat} (m : Nat) (a0 : α) (hz : z.cells.toList = τ.enc a0) (hsz : sz = τ.sz) : (Builtin.zeroCells z.cells m).toList = τ.flat (List.replicate m a0) := by
 have hzs : z.cells.size = sz := by rw [← Array.length_toList, hz, τ.len, hsz]
 rw [τ.flat_replicate, ← hz]
 apply List.ext_getElem?
 intro q
 have hp := τ.pos
 have e0 : z.cells.toList.length = sz := by simp [hzs]
 by_cases hq : q < m * sz
 ·have hqs : q % sz < sz := Nat.mod_lt _ (by omega)
  have e1 : (Builtin.zeroCells z.cells m).toList[q]? = some (z.cells[q % sz]!) := by
   simp [Builtin.zeroCells, hq, hzs]
  have : ∀ (m : Nat) (ls : List Value) (q : Nat), 0 < ls.length → q < m * ls.length → (List.replicate m ls).flatten[q]? = ls[q % ls.length]? := by
   intro m
   induction m with
   | zero => intro ls q _ h; simp at h
   | succ m ih =>
    intro ls q hp h
    rw [List.replicate_succ, List.flatten_cons]
    by_cases hlt : q < ls.length
    ·rw [List.getElem?_append_left hlt, Nat.mod_eq_of_lt hlt]
    ·rw [List.getElem?_append_right (by omega), ih _ _ hp (by rw [Nat.add_mul] at h; omega)]
     congr 1
     rw [← Nat.mod_eq_sub_mod (by omega)]
  rw [e1, this m _ q (by omega) (by rw [e0]; exact hq), e0]
  have : q % sz < z.cells.size := by omega
  simp [this]
 ·rw [List.getElem?_eq_none (by simp [Builtin.zeroCells, hzs]; omega), List.getElem?_eq_none]
  simp [e0]
  first | omega | (rw [Nat.mul_comm]; omega)
/-- append(s[:k], make(..)...), where there is no room: a new row; s is as it was. -/
theorem O_appZ (i k m : Nat) (a0 : α) {K : Value → List HProp → Prop} {t t' sz by_ : Nat} {z : Value} {x y : Operand} {S : SV} {l : List α} {kk : IntKind} {j : Int} [u : TyU P t (.slice τ.e)] [u' : TyU P t' (.int .i64)] [v : TyI P τ.e sz z by_] (hL : L[i]? = some (slc τ true S l))
 (hx : ρ.ev x = some (S.sub τ.sz 0 k).v) (hy : ρ.ev y = some (.int kk j)) (hj : j = (m : Int)) (hsz : sz = τ.sz) (hz : z.cells.toList = τ.enc a0) (hk : k ≤ l.length) (hroom : S.c < k + m) (hb : (k + m) * by_ ≤ 140737488355328) (hb1 : 1 ≤ by_)
 (hK : ∀ S', K (SV.v S') (slc τ true S' (l.take k ++ List.replicate m a0) :: L)) : JOp P E n ⟨dst, .call ⟨.builtin .append, #[x, y], #[t, t']⟩, ty, pos, after, g⟩ K ρ L := fun a w ha hs next Q hn => by
 obtain ⟨r, hr, hrs, hrz, hrb⟩ := v.get
 subst hj
 have hneed : k + m ≤ 140737488355328 := Nat.le_trans (Nat.le_mul_of_pos_right _ hb1) hb
 have hzs : z.cells.size = sz := by rw [← Array.length_toList, hz, τ.len, hsz]
 have hR := (hs.rd i hL).sub 0 k (Nat.zero_le _) hk
 rw [List.drop_zero] at hR
 have hlk : (l.take k).length = k := by simp; omega
 have hfit : Builtin.nextslicecap (k + m) S.c * by_ ≤ 281474976710656 := by
  have : Builtin.nextslicecap (k + m) S.c ≤ 2 * (k + m) := by
   unfold Builtin.nextslicecap
   split
   ·omega
   ·split
    ·omega
    ·rename_i h1 h2
     have grow : ∀ (rounds c N : Nat), c ≤ 2 * N → 256 ≤ N → (∀ c', c' < N → c' + (c' + 768) / 4 ≤ 2 * N) → Builtin.growBy N rounds c ≤ 2 * N := by
      intro rounds
      induction rounds with
      | zero => intro c N h _ _; exact h
      | succ r ih =>
       intro c N h h2 h3
       unfold Builtin.growBy
       split
       ·exact h
       ·exact ih _ _ (h3 c (by omega)) h2 h3
     exact grow 4 S.c (k + m) (by omega) (by omega) (by intro c' hc'; omega)
  calc Builtin.nextslicecap (k + m) S.c * by_ ≤ 2 * (k + m) * by_ := Nat.mul_le_mul_right _ this
   _ = 2 * ((k + m) * by_) := by rw [Nat.mul_assoc]
   _ ≤ 281474976710656 := by omega
 have hSn : (S.sub τ.sz 0 k).n = k := by simp [SV.sub]
 have hSc : (S.sub τ.sz 0 k).c = S.c := by simp [SV.sub]
 generalize hU : S.sub τ.sz 0 k = U at *
 obtain ⟨ua, un, uc⟩ := U
 simp only at hSn hSc
 subst hSn hSc
 have hfo : ∀ w', w'.heap = w.heap → (Builtin.firstCells sz un (.slice ua un S.c)).run P w' = .ok (τ.flat (l.take un)).toArray w' := fun w' hw' => by
  rcases hR.cells with h0 | ⟨b, hb, hc⟩
  ·have hl0 : un = 0 := by
    have := τ.flat_length (l.take un)
    rw [h0, hlk] at this
    have hp := τ.pos
    rcases Nat.eq_zero_or_pos un with h | h
    ·omega
    ·have := Nat.mul_le_mul_right τ.sz h; simp only [List.length_nil] at *; omega
   rw [h0, hl0]
   cases ua <;> simp [Builtin.firstCells, loadCells, loadCellsFrom]
  ·simp only at hb
   subst hb
   simp only [Builtin.firstCells]
   exact run_cells b (τ.flat (l.take un)) (fun j u hu => by have := hc j u hu; simpa [World.cell?, hw'] using this) _ (by rw [τ.flat_length, hsz, hlk])
 have hfo := hfo w.drew rfl
 have hn' : ¬ (un + m ≤ S.c) := by omega
 have h63' : ¬ (9223372036854775807 < ((un : Int) + (m : Int))) := by omega
 have h48' : ¬ (281474976710656 < Builtin.nextslicecap (un + m) S.c * by_) := by omega
 have hmb : (m : Int) * (r.bytes : Int) ≤ 281474976710656 := by
  rw [hrb, ← Int.natCast_mul]
  have : m * by_ ≤ (un + m) * by_ := Nat.mul_le_mul_right _ (by omega)
  omega
 have hmb' : ¬ (281474976710656 < (m : Int) * (r.bytes : Int)) := by omega
 have hm0 : 0 < m := by have := (hs.rd i hL).2.1; have := (hs.rd i hL).1; omega
 have hms : ¬ (m * sz = 0) := by
  have hp := τ.pos
  have := Nat.mul_le_mul hm0 (show 1 ≤ sz by omega)
  omega
 have hwr : IntKind.i64.wrap (m : Int) = (m : Int) := by rw [IntKind.wrap_i64]; omega
 let cap := grownCap w (un + m) S.c τ.e
 let C : List Value := τ.flat (l.take un) ++ τ.flat (List.replicate m a0) ++ (Builtin.zeroCells z.cells (cap - (un + m))).toList
 have hcapge : un + m ≤ cap := grownCap_ge w _ _ _
 have hcaple : cap ≤ 9223372036854775807 := by
  have := grownCap_le_maxLen w (un + m) S.c τ.e (by unfold maxLen; omega)
  unfold maxLen at this; exact this
 have hrun : (Builtin.append_ #[t, t'] ty #[.slice ua un S.c, .int kk (m : Int)]).run P w = .ok (SV.v ⟨some ⟨w.heap.size, 0, none⟩, un + m, cap⟩) (w.drew.alloc (.cells C.toArray τ.e)) := by
  have e1 : C.toArray = (τ.flat (l.take un)).toArray ++ (Builtin.zeroCells z.cells m) ++ Builtin.zeroCells z.cells (cap - (un + m)) := by
   simp [C, ← zeros_flat (τ := τ) m a0 hz hsz]
  rw [e1]
  have hfo' : (Builtin.firstCells r.size un (.slice ua un S.c)).run P w.drew = .ok (τ.flat (l.take un)).toArray w.drew := by rw [hrs]; exact hfo
  have hms' : ¬ (m * r.size = 0) := by rw [hrs]; exact hms
  have hm1 : ¬ (m = 0) := by omega
  have hr0 : ¬ (r.size = 0) := fun h => hms' (by rw [h]; simp)
  have hneg : ¬ ((m : Int) < 0) := by omega
  have hmb3 : ¬ (281474976710656 < (m : Int) * (by_ : Int)) := by rw [← hrb]; exact hmb'
  simp only [Builtin.append_]
  simp [run_underlying u.h, run_underlying u'.h, sizeOf, typeInfo, hr, zeroValue, hrz, asInt, asIntOf, hwr, hmb', hmb3, hn', h63', hrb, h48', Question.forced, hfo', hm1, hr0, hms', hneg, newRow, grownCap, cap, SV.v]
  try (congr 2; rw [← Array.append_assoc]; simp)
 have hnw := newed_drew_alloc w (.cells C.toArray τ.e)
 have hfl := τ.flat_length (l.take un ++ List.replicate m a0)
 rw [τ.flat_append] at hfl
 have hsat := hs.new_row (τ := τ) (l := l.take un ++ List.replicate m a0) (c := cap) hnw (.inl (Nat.le_refl _)) (by simp; omega) (by
  have hzl : (Builtin.zeroCells z.cells (cap - (un + m))).toList.length = (cap - (un + m)) * τ.sz := by rw [Array.length_toList, size_zeroCells, hzs, hsz]
  have hCl : C.length = (τ.flat (l.take un)).length + (τ.flat (List.replicate m a0)).length + (cap - (un + m)) * τ.sz := by
   show (τ.flat (l.take un) ++ τ.flat (List.replicate m a0) ++ (Builtin.zeroCells z.cells (cap - (un + m))).toList).length = _
   rw [List.length_append, List.length_append, hzl]
  rw [hCl, Nat.sub_mul]
  have := Nat.mul_le_mul_right τ.sz hcapge
  rw [List.length_append, List.length_append, hlk, List.length_replicate] at hfl
  omega) (by
  simp only [C]
  rw [List.take_append, show (l.take un ++ List.replicate m a0).length * τ.sz - (τ.flat (l.take un) ++ τ.flat (List.replicate m a0)).length = 0 by omega, List.take_zero, List.append_nil, List.take_of_length_le (by omega), τ.flat_append]) hcaple
 have hlen2 : (l.take un ++ List.replicate m a0).length = un + m := by simp; omega
 rw [hlen2] at hsat
 unfold Oper.wp
 simp only [execOp, resolve]
 have e1 : (Array.map a.eval #[x, y]) = #[.slice ua un S.c, .int kk (m : Int)] := by simp [ha.ev hx, ha.ev hy]
 simp only [run_bind_pure, invoke, e1, builtin]
 simp only [Sem.run_bind, hrun, Result.andThen_ok, Sem.run_pure]
 exact hn _ _ _ (hK _) hsat
/-- copy(d[lo:hi], s) -/
theorem O_copy (i lo hi : Nat) {K : Value → List HProp → Prop} {t t' sz by_ : Nat} {z : Value} {x y : Operand} {D T : SV} {l m : List α} [u : TyU P t (.slice τ.e)] [v : TyI P τ.e sz z by_] (hL : L[i]? = some (slc τ true D l))
 (hT : ∀ w, Sat E w L → Rd τ w ⟨T.a, m.length, T.c⟩ m) (hx : ρ.ev x = some (D.sub τ.sz lo hi).v) (hy : ρ.ev y = some T.v) (hsz : sz = τ.sz) (hmin : min T.n (hi - lo) = m.length) (hlo : lo ≤ l.length) (hroom : lo + m.length ≤ D.c)
 (hK : K (.int .i64 (m.length : Int)) (L.set i (slc τ true ⟨D.a, max D.n (lo + m.length), D.c⟩ (l.take lo ++ m ++ l.drop (lo + m.length))))) : JOp P E n ⟨dst, .call ⟨.builtin .copy, #[x, y], #[t, t']⟩, ty, pos, after, g⟩ K ρ L := fun a w ha hs next Q hn => by
 obtain ⟨r, hr, hrs, hrz, hrb⟩ := v.get
 have hR := hT w hs
 have hfc : (Builtin.firstCells sz m.length T.v).run P w = .ok (τ.flat m).toArray w := by
  rcases hR.cells with h0 | ⟨b, hb, hc⟩
  ·have hl0 : m.length = 0 := by
    have := τ.flat_length m
    rw [h0] at this
    have hp := τ.pos
    rcases Nat.eq_zero_or_pos m.length with h | h
    ·exact h
    ·have := Nat.mul_le_mul_right τ.sz h; simp only [List.length_nil] at *; omega
   rw [h0, hl0]
   cases hS : T.a <;> simp [SV.v, hS, Builtin.firstCells, loadCells, loadCellsFrom]
  ·simp only at hb
   simp only [SV.v, hb, Builtin.firstCells]
   exact run_cells b (τ.flat m) (fun j u hu => hc j u hu) _ (by rw [τ.flat_length, hsz])
 have hlen : (Builtin.lenOf T.v).run P w = .ok T.n w := by simp [Builtin.lenOf]
 obtain ⟨p, ⟨hn', hcap, h⟩, hw⟩ := hs.at hL
 have hdn : (D.sub τ.sz lo hi).n = hi - lo := rfl
 have hmin' : Nat.min T.n (hi - lo) = m.length := hmin
 have key : ∃ w', (Builtin.copy_ #[t, t'] ty #[(D.sub τ.sz lo hi).v, T.v]).run P w = .ok (.int .i64 (m.length : Int)) w' ∧ Sat E w' (L.set i (slc τ true ⟨D.a, max D.n (lo + m.length), D.c⟩ (l.take lo ++ m ++ l.drop (lo + m.length)))) := by
  rcases h with ⟨hno, h0⟩ | ⟨_, _, hf0, _⟩ | ⟨b, o, hS, _, cs, fr, hp, hfr, hlen', hcs, hmx⟩
  ·have hm0 : m.length = 0 := by omega
   have hm : m = [] := List.eq_nil_of_length_eq_zero hm0
   have hl : l = [] := List.eq_nil_of_length_eq_zero (by omega)
   subst hm hl
   refine ⟨w, ?_, ?_⟩
   ·have hfc' := hfc
    simp only [List.length_nil] at hfc' hmin'
    have hna : (D.sub τ.sz lo hi).a = none := by simp [SV.sub, hno]
    simp only [Builtin.copy_, SV.v] at *
    rw [hdn, hna]
    simp [run_underlying u.h, sizeOf, typeInfo, hr, hrs, hlen, hmin', hfc', goInt]
   ·have e : L.set i (slc τ true ⟨D.a, max D.n (lo + ([] : List α).length), D.c⟩ (([] : List α).take lo ++ [] ++ ([] : List α).drop (lo + ([] : List α).length))) = L := by
     have e2 : (⟨D.a, max D.n (lo + ([] : List α).length), D.c⟩ : SV) = D := by
      cases D; simp at hn' hroom h0 ⊢; omega
     rw [e2]
     refine List.ext_getElem? fun j => ?_
     rw [List.getElem?_set]
     by_cases e : i = j
     ·subst e; rw [hL]; simp [(List.getElem?_eq_some_iff.1 hL).1]
     ·simp [e]
    rw [e]; exact hs
  ·cases hf0
  ·have hb' := (hw b _ hp).2
   have hfl := τ.flat_length m
   have hmul : (lo + m.length) * τ.sz ≤ D.c * τ.sz := Nat.mul_le_mul_right _ hroom
   rw [Nat.add_mul] at hmul
   obtain ⟨w', hst, ht1⟩ := run_storeCells (P := P) b τ.e fr (τ.flat m) (o + lo * τ.sz) 0 cs w hb' hfr (by omega) (τ.flat_one m)
   refine ⟨w', ?_, ?_⟩
   ·have hst' : ∃ A, (D.sub τ.sz lo hi).a = some A ∧ (storeCells A (τ.flat m)).run P w = .ok () w' := by
     by_cases e : D.c = lo
     ·have hm : m = [] := List.eq_nil_of_length_eq_zero (by omega)
      subst hm
      refine ⟨⟨b, o, none⟩, by simp [SV.sub, e, hS], ?_⟩
      simpa [Ty.flat, storeCells] using hst
     ·exact ⟨⟨b, o + lo * τ.sz, none⟩, by simp [SV.sub, e, hS, addr_add], hst⟩
    obtain ⟨A, hA, hst'⟩ := hst'
    simp only [Builtin.copy_, SV.v] at *
    rw [hdn, hA]
    simp [run_underlying u.h, sizeOf, typeInfo, hr, hrs, hlen, hmin', hfc, goInt, hst']
   ·refine hs.turn_at hL (fun p' ⟨_, _, hp2⟩ _ => ?_) ht1
    have hp' : ∃ o', p' b = some o' := by
     rcases hp2 with ⟨hno, _⟩ | ⟨_, _, hf0, _⟩ | ⟨b2, o2, hS2, _, cs2, fr2, hb2, _⟩
     ·rw [hno] at hS; cases hS
     ·cases hf0
     ·rw [hS2] at hS; simp only [Option.some.injEq, Addr.mk.injEq] at hS; obtain ⟨rfl, _⟩ := hS; exact ⟨_, hb2⟩
    have hCl : (cs.take (o + lo * τ.sz) ++ τ.flat m ++ cs.drop (o + lo * τ.sz + (τ.flat m).length)).length = cs.length := by simp; omega
    refine ⟨hp', by simp; omega, by simp; omega, .inr (.inr ⟨b, o, hS, rfl, cs.take (o + lo * τ.sz) ++ τ.flat m ++ cs.drop (o + lo * τ.sz + (τ.flat m).length), fr, by simp, by rw [hCl]; exact hfr, by rw [hCl]; exact hlen', ?_, hmx⟩)⟩
    have hA : (cs.take (o + lo * τ.sz)).length = o + lo * τ.sz := by simp; omega
    have hDl : D.n * τ.sz = l.length * τ.sz := by rw [hn']
    have hlo' : lo * τ.sz ≤ l.length * τ.sz := Nat.mul_le_mul_right _ hlo
    rw [List.append_assoc, List.drop_append_of_le_length (by omega), List.drop_take, show o + lo * τ.sz - o = lo * τ.sz by omega]
    have h1 : (cs.drop o).take (lo * τ.sz) = τ.flat (l.take lo) := by
     have := congrArg (List.take (lo * τ.sz)) hcs
     rw [List.take_take, Nat.min_eq_left (by omega), τ.flat_take] at this
     exact this
    have h2 : (cs.drop (o + lo * τ.sz + (τ.flat m).length)).take ((D.n - (lo + m.length)) * τ.sz) = τ.flat (l.drop (lo + m.length)) := by
     have := congrArg (List.drop ((lo + m.length) * τ.sz)) hcs
     rw [List.drop_take, List.drop_drop, τ.flat_drop] at this
     rw [Nat.sub_mul, hfl, ← this]
     congr 2
     rw [Nat.add_mul]; omega
    rw [h1, τ.flat_append, τ.flat_append, List.append_assoc]
    generalize cs.drop (o + lo * τ.sz + (τ.flat m).length) = R at h2 ⊢
    have hfl1 := τ.flat_length (l.take lo)
    rw [List.length_take, Nat.min_eq_left hlo] at hfl1
    have hmx2 : max D.n (lo + m.length) * τ.sz = lo * τ.sz + (m.length * τ.sz + (D.n - (lo + m.length)) * τ.sz) := by
     rw [← Nat.add_mul, ← Nat.add_mul]; congr 1; omega
    rw [hmx2, ← hfl1, List.take_length_add_append, ← hfl, List.take_length_add_append, h2]
 obtain ⟨w', hr', hs'⟩ := key
 unfold Oper.wp
 simp only [execOp, resolve]
 have e1 : (Array.map a.eval #[x, y]) = #[(D.sub τ.sz lo hi).v, T.v] := by simp [ha.ev hx, ha.ev hy]
 simp only [run_bind_pure, invoke, e1, builtin]
 simp only [Sem.run_bind, hr', Result.andThen_ok, Sem.run_pure]
 exact hn _ _ w' hK hs'
/-- A slice in a block of its own, of plain memory. -/
def slcN {α : Type} (τ : Ty α) (S : SV) (l : List α) : HProp := fun _ h => ∃ b : Nat, S = ⟨some ⟨b, 0, none⟩, l.length, l.length⟩ ∧ l.length ≤ 9223372036854775807 ∧ h b = some (.cells (τ.flat l).toArray τ.e)
theorem slcN_slc {S : SV} {l : List α} {h : Frag} (hs : slcN τ S l E h) : slc τ true S l E h := by
 obtain ⟨b, rfl, hl, hb⟩ := hs
 have hfl := τ.flat_length l
 exact ⟨rfl, Nat.le_refl _, .inr (.inr ⟨b, 0, rfl, rfl, τ.flat l, (0, 0), hb, .inl (Nat.le_refl _), by simp only; omega, by rw [List.drop_zero, List.take_of_length_le (by simp only; omega)], hl⟩)⟩
theorem Ent.slcN {S : SV} {l : List α} (i : Nat) (hi : L[i]? = some (SL.slcN τ S l)) : Ent L (L.set i (slc τ true S l)) := fun _ _ h => h.map_at hi fun _ hg => slcN_slc hg
theorem Sat.rdN {w : World} (h : Sat E w L) (i : Nat) {S : SV} {l : List α} (hi : L[i]? = some (SL.slcN τ S l)) : Rd τ w S l := by
 have := h.map_at hi (d := slc τ true S l) fun _ hg => slcN_slc hg
 exact this.rd i (by rw [List.getElem?_set_self (List.getElem?_eq_some_iff.1 hi).1])
theorem O_litN {K : Value → List HProp → Prop} {t sz by_ : Nat} {z : Value} {ps : List (Nat × Operand)} {m : Nat} {vs : List Value} (l : List α) [u : TyU P t (.slice τ.e)] [v : TyI P τ.e sz z by_] (hp : ((ps.map (·.2)).zipIdx.map fun (x, i) => (i, x)) = ps) (hx : ρ.evs (ps.map (·.2)) = some vs) (hm : m = vs.length) (hsz : sz = τ.sz) (hz : z.cells.size = sz)
 (hl : vs.map (fun v => v.cells.toList) = l.map τ.enc) (h24 : m * sz ≤ 16777216) (hm0 : 0 < m) (hK : ∀ S, K (SV.v S) (slcN τ S l :: L)) : JOp P E n ⟨dst, .buildSlice t m ps.toArray, ty, pos, after, g⟩ K ρ L := fun a w ha hs next Q hn => by
 rw [← hp]
 generalize ps.map (·.2) = xs at *
 obtain ⟨r, hr, hrs, hrz, hrb⟩ := v.get
 have hlen : vs.length = l.length := by have := congrArg List.length hl; simpa using this
 have hcells : ∀ u ∈ vs, u.cells.size = sz := fun u hu => by
  have h1 : u.cells.toList ∈ l.map τ.enc := by rw [← hl]; exact List.mem_map_of_mem hu
  obtain ⟨b, _, hb⟩ := List.mem_map.1 h1
  have := τ.len b
  rw [hb] at this
  rw [hsz]; simpa using this
 have hflat : (vs.flatMap fun v => v.cells.toList) = τ.flat l := by
  have h1 : (vs.map (fun v => v.cells.toList)).flatten = (l.map τ.enc).flatten := by rw [hl]
  simpa [List.flatMap, Ty.flat] using h1
 let C : List Value := (Array.range (m * sz)).toList.map (z.cells[· % z.cells.size]!)
 have hC : C.length = m * sz := by simp [C]
 have hfill := run_fill sz vs 0 C hcells (by rw [hC, hm]; omega)
 rw [hflat] at hfill
 simp only [Nat.zero_mul, List.take_zero, List.nil_append, Nat.zero_add] at hfill
 rw [List.drop_of_length_le (by rw [hC, hm]; omega), List.append_nil] at hfill
 have h0 : ¬ (m * sz = 0) := by
  have hp := τ.pos
  have := Nat.mul_le_mul hm0 (show 1 ≤ sz by omega)
  omega
 have hrun : (Instr.buildSlice t m ((xs.zipIdx.map fun (x, i) => (i, x)).toArray.map fun (i, x) => (i, a.eval x))).run P w = .ok (.slice (some ⟨w.heap.size, 0, none⟩) m m) (w.alloc (.cells (τ.flat l).toArray τ.e)) := by
  have e1 : ((xs.zipIdx.map fun (x, i) => (i, x)).toArray.map fun (i, x) => (i, a.eval x)) = ((vs.zipIdx 0).map fun (v, i) => (i, v)).toArray := by
   rw [← ha.evs hx]
   simp [List.zipIdx_map]
  rw [e1]
  simp only [Instr.buildSlice]
  have eC : ((Array.range (m * sz)).map (z.cells[· % z.cells.size]!)) = C.toArray := by
   apply Array.ext'; simp [C]
  simp [run_underlying u.h, sizeOf, typeInfo, zeroValue, hr, hrs, hrz, h0, show ¬ (16777216 < m * sz) by omega]
  rw [eC, hfill]
  simp [newRow]
 have hml : m = l.length := by omega
 have hsat : Sat E (w.alloc (.cells (τ.flat l).toArray τ.e)) (slcN τ ⟨some ⟨w.heap.size, 0, none⟩, m, m⟩ l :: L) := (hs.newed (newed_alloc w (.cells (τ.flat l).toArray τ.e))).weaken fun g hg => ⟨w.heap.size, by rw [hml], by
  have hp := τ.pos
  have := Nat.mul_le_mul_left m (show 1 ≤ sz by omega)
  omega, hg⟩
 unfold Oper.wp
 simp only [execOp]
 simp only [Sem.run_bind, hrun, Result.andThen_ok, Sem.run_pure]
 exact hn _ _ _ (hK ⟨some ⟨w.heap.size, 0, none⟩, m, m⟩) hsat
/-- slices.overlaps, of what lies in two blocks. -/
def OvFn (P : Program) (f t : Nat) : Prop := ∃ (fn : Func) (t' : Nat), P.funcs[f]? = some fn ∧ (fn.name == "runtime.NumGoroutine") = false ∧ fn.body.isNone = true ∧ Extern.findNext fn = none ∧ Extern.find fn = some (Extern.SlicesOverlaps.overlaps #[t, t] #[t'])
theorem O_overlaps {f : Nat} (i j lo hi : Nat) {K : Value → List HProp → Prop} {t sz by_ : Nat} {z : Value} {x y : Operand} {ts : Array TypeId} {S T : SV} {l m : List α} [u : TyU P t (.slice τ.e)] [v : TyI P τ.e sz z by_] (hf : OvFn P f t) (hij : i ≠ j) (hi' : L[i]? = some (slcN τ T m)) (hj : L[j]? = some (slc τ true S l))
 (hx : ρ.ev x = some T.v) (hy : ρ.ev y = some (S.sub τ.sz lo hi).v) (hsz : sz = τ.sz) (hm : 0 < m.length) (hc : 0 < S.c) (hK : K (.bool false) L) : JOp P E n ⟨dst, .call ⟨.value (.func f), #[x, y], ts⟩, ty, pos, after, g⟩ K ρ L := fun a w ha hs next Q hn => by
 obtain ⟨fn, t', h1, h2, h3, h4, h5⟩ := hf
 obtain ⟨r, hr, hrs, hrz, hrb⟩ := v.get
 obtain ⟨fr, f1, f2, f3⟩ := hs.own
 have hil : i < L.length := (List.getElem?_eq_some_iff.1 hi').1
 have hjl : j < L.length := (List.getElem?_eq_some_iff.1 hj).1
 obtain ⟨b, rfl, hml, hb⟩ := f1 i _ hi'
 obtain ⟨_, _, hS⟩ := f1 j _ hj
 rcases hS with ⟨_, h0⟩ | ⟨_, _, hf0, _⟩ | ⟨b2, o, hSa, _, cs, fz, hp, hfr, hlen', hcs, hmx⟩
 ·omega
 ·cases hf0
 have hne : b ≠ b2 := by
  intro e; subst e
  have := f3 i j hil hjl hij b
  rw [hb, hp] at this
  simp at this
 have hbw := (f2 i hil b _ hb).2
 have hb2w := (f2 j hjl b2 _ hp).2
 have hpos := τ.pos
 have hcl : cs.length ≠ 0 := by
  have := Nat.mul_le_mul hc (show 1 ≤ τ.sz by omega)
  omega
 obtain ⟨A, hA, hAb⟩ : ∃ A : Addr, (S.sub τ.sz lo hi).a = some A ∧ A.block = b2 := by
  by_cases e : S.c = lo
  ·exact ⟨_, by simp [SV.sub, e, hSa]; rfl, rfl⟩
  ·exact ⟨_, by simp [SV.sub, e, hSa]; rfl, by rw [addr_add]⟩
 have hz' : ∀ w, (Go.sizeOf τ.e).run P w = .ok sz w := fun w => by simp [sizeOf, typeInfo, hr, hrs]
 have hov := Lib.run_overlaps_apart (P := P) w t t' τ.e u.h sz hz' ⟨b, 0, none⟩ A m.length m.length (S.sub τ.sz lo hi).n (S.sub τ.sz lo hi).c (by simpa [hAb] using hne) τ.e τ.e (τ.flat m).length cs.length (by simp [World.shape?, hbw]) (by simp [World.shape?, hAb, hb2w]) hcl (by simp [World.frozen?, hbw]) (by simp [World.frozen?, hbw])
 unfold Oper.wp
 simp only [execOp, resolve]
 have e1 : (Array.map a.eval #[x, y]) = #[.slice (some ⟨b, 0, none⟩) m.length m.length, .slice (some A) (S.sub τ.sz lo hi).n (S.sub τ.sz lo hi).c] := by simp [ha.ev hx, ha.ev hy, SV.v, hA]
 have e2 : a.eval (.func f) = .func (.func f) #[] #[] := rfl
 simp only [e1, e2, Deferred.ofValue, run_bind_pure, invoke, Array.empty_append, Array.append_empty]
 rw [run_callFunc_extern h1 h2 h3 h4 h5, hov]
 simp only [Result.andThen_ok]
 exact hn _ _ w hK hs
theorem Sat.slcA {w : World} (h : Sat E w L) (i : Nat) {S : SV} {l : List α} (hi : L[i]? = some (slc τ true S l)) : 0 < S.c → ∃ g o, S.a = some ⟨g, o, none⟩ := fun hc => by
 obtain ⟨p, ⟨_, _, hp⟩, _⟩ := h.at hi
 rcases hp with ⟨_, h0⟩ | ⟨_, _, hf0, _⟩ | ⟨g, o, ha, _⟩
 ·omega
 ·cases hf0
 ·exact ⟨g, o, ha⟩
theorem Sat.slcT {w : World} (h : Sat E w L) (i : Nat) {T : SV} {x : α} (hi : L[i]? = some (SL.slcN τ T [x])) : ∃ b, T = ⟨some ⟨b, 0, none⟩, 1, 1⟩ := by
 obtain ⟨p, ⟨b, hT, _⟩, _⟩ := h.at hi
 exact ⟨b, hT⟩
theorem Rd.dropN {w : World} {S : SV} {l : List α} {q : Nat} (h : Rd τ w S l) (k : Nat) (hk : k ≤ l.length) : Rd τ w ⟨(S.sub τ.sz k q).a, (l.drop k).length, (S.sub τ.sz k q).c⟩ (l.drop k) := by
 have h1 := h.sub k l.length hk (Nat.le_refl _)
 rw [List.take_length] at h1
 have e : (⟨(S.sub τ.sz k q).a, (l.drop k).length, (S.sub τ.sz k q).c⟩ : SV) = S.sub τ.sz k l.length := by simp [SV.sub]
 rw [e]; exact h1
end
end Go.SL
/- Keys in their order, and rising pairs, in plain Lean. -/
set_option autoImplicit false
namespace Go.Proofs.Bt
abbrev Ky := List UInt8
def kl : Ky → Ky → Bool
 | [], [] => false
 | [], _ :: _ => true
 | _ :: _, [] => false
 | a :: ar, b :: bs => if a < b then true else if b < a then false else kl ar bs
theorem kl_irr : ∀ a, kl a a = false
 | [] => rfl
 | a :: ar => by simp only [kl]; rw [if_neg (UInt8.lt_irrefl a), if_neg (UInt8.lt_irrefl a)]; exact kl_irr ar
theorem kl_trans : ∀ {a b c}, kl a b = true → kl b c = true → kl a c = true
 | [], [], c, h, h2 => h2
 | [], _ :: _, [], _, h => by cases h
 | [], _ :: _, _ :: _, _, _ => rfl
 | _ :: _, [], _, h, _ => by cases h
 | _ :: _, _ :: _, [], _, h => by cases h
 | a :: ar, b :: bs, c :: cs, h1, h2 => by
  simp only [kl] at h1 h2 ⊢
  by_cases e1 : a < b
  ·by_cases e2 : b < c
   ·rw [if_pos (UInt8.lt_trans e1 e2)]
   ·rw [if_neg e2] at h2
    by_cases e3 : c < b
    ·rw [if_pos e3] at h2; cases h2
    ·have : b = c := UInt8.le_antisymm (UInt8.not_lt.1 e3) (UInt8.not_lt.1 e2)
     subst this; rw [if_pos e1]
  ·rw [if_neg e1] at h1
   by_cases e3 : b < a
   ·rw [if_pos e3] at h1; cases h1
   ·have : a = b := UInt8.le_antisymm (UInt8.not_lt.1 e3) (UInt8.not_lt.1 e1)
    subst this
    rw [if_neg e1] at h1
    by_cases e4 : a < c
    ·rw [if_pos e4]
    ·rw [if_neg e4] at h2 ⊢
     by_cases e5 : c < a
     ·rw [if_pos e5] at h2; cases h2
     ·rw [if_neg e5] at h2 ⊢
      exact kl_trans h1 h2
theorem kl_asymm {a b : Ky} (h : kl a b = true) : kl b a = false := by
 cases h2 : kl b a with
 | false => rfl
 | true => have := kl_trans h h2; rw [kl_irr] at this; cases this
theorem kl_tri : ∀ a b, kl a b = true ∨ a = b ∨ kl b a = true
 | [], [] => .inr (.inl rfl)
 | [], _ :: _ => .inl rfl
 | _ :: _, [] => .inr (.inr rfl)
 | a :: ar, b :: bs => by
  simp only [kl]
  by_cases e1 : a < b
  ·exact .inl (by rw [if_pos e1])
  ·by_cases e2 : b < a
   ·exact .inr (.inr (by rw [if_pos e2]))
   ·have : a = b := UInt8.le_antisymm (UInt8.not_lt.1 e2) (UInt8.not_lt.1 e1)
    subst this
    simp only [UInt8.lt_irrefl, if_false]
    rcases kl_tri ar bs with h | h | h
    ·exact .inl h
    ·exact .inr (.inl (by rw [h]))
    ·exact .inr (.inr h)
theorem kl_ne {a b : Ky} (h : kl a b = true) : a ≠ b := by rintro rfl; rw [kl_irr] at h; cases h
theorem cmp_kl : ∀ a b : Ky, Lib.compareBytes a b = if kl a b = true then -1 else if kl b a = true then 1 else 0
 | [], [] => rfl
 | [], _ :: _ => rfl
 | _ :: _, [] => rfl
 | a :: ar, b :: bs => by
  simp only [Lib.compareBytes, kl]
  by_cases e1 : a < b
  ·simp [e1]
  ·by_cases e2 : b < a
   ·simp [e1, e2]
   ·simp only [e1, e2, if_false]; exact cmp_kl ar bs
theorem less_kl : ∀ a b : Ky, Op.bytesLess a b = kl a b
 | [], [] => rfl
 | [], _ :: _ => rfl
 | _ :: _, [] => rfl
 | a :: ar, b :: bs => by
  simp only [Op.bytesLess, kl]
  by_cases e1 : a < b
  ·simp [e1]
  ·by_cases e2 : b < a
   ·simp [e1, e2]
    intro h; subst h; exact absurd e2 e1
   ·have : a = b := UInt8.le_antisymm (UInt8.not_lt.1 e2) (UInt8.not_lt.1 e1)
    subst this
    simp [e1, less_kl ar bs]
structure Kv where
 key : Ky
 val : Ky
 deriving DecidableEq
abbrev Up (l : List Kv) : Prop := l.Pairwise fun x y => kl x.key y.key = true
def lo (l : List Kv) (k : Ky) : List Kv := l.filter fun x => kl x.key k
def hi (l : List Kv) (k : Ky) : List Kv := l.filter fun x => kl k x.key
def putL (l : List Kv) (k v : Ky) : List Kv := lo l k ++ ⟨k, v⟩ :: hi l k
def delL (l : List Kv) (k : Ky) : List Kv := lo l k ++ hi l k
def hasL (l : List Kv) (k : Ky) : Bool := l.any fun x => decide (x.key = k)
def getL (l : List Kv) (k : Ky) : Ky := ((l.find? fun x => decide (x.key = k)).map (·.val)).getD []
abbrev Bel (l : List Kv) (k : Ky) : Prop := ∀ x ∈ l, kl x.key k = true
abbrev Abv (l : List Kv) (k : Ky) : Prop := ∀ x ∈ l, kl k x.key = true
theorem lo_app (a b : List Kv) (k : Ky) : lo (a ++ b) k = lo a k ++ lo b k := List.filter_append ..
theorem hi_app (a b : List Kv) (k : Ky) : hi (a ++ b) k = hi a k ++ hi b k := List.filter_append ..
theorem lo_bel {l : List Kv} {k : Ky} (h : Bel l k) : lo l k = l := List.filter_eq_self.2 h
theorem hi_bel {l : List Kv} {k : Ky} (h : Bel l k) : hi l k = [] := List.filter_eq_nil_iff.2 fun x hx => by rw [kl_asymm (h x hx)]; simp
theorem lo_abv {l : List Kv} {k : Ky} (h : Abv l k) : lo l k = [] := List.filter_eq_nil_iff.2 fun x hx => by rw [kl_asymm (h x hx)]; simp
theorem hi_abv {l : List Kv} {k : Ky} (h : Abv l k) : hi l k = l := List.filter_eq_self.2 h
theorem hasL_f {l : List Kv} {k : Ky} (h : ∀ x ∈ l, x.key ≠ k) : hasL l k = false := by
 unfold hasL; rw [List.any_eq_false]; intro x hx; simpa using h x hx
theorem bel_ne {l : List Kv} {k : Ky} (h : Bel l k) : ∀ x ∈ l, x.key ≠ k := fun x hx => kl_ne (h x hx)
theorem abv_ne {l : List Kv} {k : Ky} (h : Abv l k) : ∀ x ∈ l, x.key ≠ k := fun x hx e => kl_ne (h x hx) e.symm
theorem hasL_app (a b : List Kv) (k : Ky) : hasL (a ++ b) k = (hasL a k || hasL b k) := List.any_append ..
theorem has_hit {X Y : List Kv} {k : Ky} (u : Ky) : hasL (X ++ ⟨k, u⟩ :: Y) k = true := by
 unfold hasL; rw [List.any_eq_true]; exact ⟨⟨k, u⟩, by simp, by simp⟩
section
variable {X M Y : List Kv} {k : Ky} (hX : Bel X k) (hY : Abv Y k)
include hX hY
theorem put_ctx (v : Ky) : putL (X ++ M ++ Y) k v = X ++ putL M k v ++ Y := by
 unfold putL
 rw [lo_app, lo_app, hi_app, hi_app, lo_bel hX, hi_bel hX, lo_abv hY, hi_abv hY]; simp
theorem del_ctx : delL (X ++ M ++ Y) k = X ++ delL M k ++ Y := by
 unfold delL
 rw [lo_app, lo_app, hi_app, hi_app, lo_bel hX, hi_bel hX, lo_abv hY, hi_abv hY]; simp
theorem has_ctx : hasL (X ++ M ++ Y) k = hasL M k := by
 rw [hasL_app, hasL_app, hasL_f (bel_ne hX), hasL_f (abv_ne hY)]; simp
theorem get_ctx : getL (X ++ M ++ Y) k = getL M k := by
 have e1 : X.find? (fun x => decide (x.key = k)) = none := List.find?_eq_none.2 fun x hx => by simpa using bel_ne hX x hx
 have e2 : Y.find? (fun x => decide (x.key = k)) = none := List.find?_eq_none.2 fun x hx => by simpa using abv_ne hY x hx
 unfold getL
 rw [List.find?_append, List.find?_append, e1, e2]
 simp
theorem put_hit (u v : Ky) : putL (X ++ ⟨k, u⟩ :: Y) k v = X ++ ⟨k, v⟩ :: Y := by
 have := put_ctx (M := [⟨k, u⟩]) hX hY v
 rw [List.append_assoc, List.append_assoc] at this
 rw [show X ++ (⟨k, u⟩ : Kv) :: Y = X ++ ([⟨k, u⟩] ++ Y) from rfl, this]
 simp [putL, lo, hi, kl_irr]
theorem del_hit (u : Ky) : delL (X ++ ⟨k, u⟩ :: Y) k = X ++ Y := by
 have := del_ctx (M := [⟨k, u⟩]) hX hY
 rw [List.append_assoc, List.append_assoc] at this
 rw [show X ++ (⟨k, u⟩ : Kv) :: Y = X ++ ([⟨k, u⟩] ++ Y) from rfl, this]
 simp [delL, lo, hi, kl_irr]
theorem get_hit (u : Ky) : getL (X ++ ⟨k, u⟩ :: Y) k = u := by
 have := get_ctx (M := [⟨k, u⟩]) hX hY
 rw [List.append_assoc] at this
 rw [show X ++ (⟨k, u⟩ : Kv) :: Y = X ++ ([⟨k, u⟩] ++ Y) from rfl, this]
 simp [getL]
theorem put_miss (v : Ky) : putL (X ++ Y) k v = X ++ ⟨k, v⟩ :: Y := by
 have := put_ctx (M := []) hX hY v
 rw [List.append_nil] at this
 rw [this]; simp [putL, lo, hi]
end
theorem up_mid {X Y : List Kv} {p : Kv} (h : Up (X ++ p :: Y)) : Bel X p.key ∧ Abv Y p.key ∧ Up X ∧ Up Y := by
 have h1 := List.pairwise_append.1 h
 have h2 := List.pairwise_cons.1 h1.2.1
 exact ⟨fun x hx => h1.2.2 x hx p (by simp), h2.1, h1.1, h2.2⟩
theorem up_app {X Y : List Kv} (h : Up (X ++ Y)) : Up X ∧ Up Y := ⟨(List.pairwise_append.1 h).1, (List.pairwise_append.1 h).2.1⟩
/-- The split of a rising list at a key. -/
theorem up_lo_hi {l : List Kv} (h : Up l) (k : Ky) : (∃ u, l = lo l k ++ ⟨k, u⟩ :: hi l k) ∨ (l = lo l k ++ hi l k ∧ hasL l k = false) := by
 induction l with
 | nil => exact .inr ⟨rfl, rfl⟩
 | cons p l ih =>
  obtain ⟨h1, h2⟩ := List.pairwise_cons.1 h
  rcases kl_tri p.key k with e | e | e
  ·have e1 : lo (p :: l) k = p :: lo l k := by simp [lo, e]
   have e2 : hi (p :: l) k = hi l k := by simp [hi, kl_asymm e]
   rw [e1, e2]
   rcases ih h2 with ⟨u, hu⟩ | ⟨hu, hf⟩
   ·exact .inl ⟨u, by rw [List.cons_append, ← hu]⟩
   ·refine .inr ⟨by rw [List.cons_append, ← hu], ?_⟩
    simp only [hasL, List.any_cons, Bool.or_eq_false_iff]
    exact ⟨by simpa using kl_ne e, hf⟩
  ·have hA : Abv l k := by rw [← e]; exact h1
   have e1 : lo (p :: l) k = [] := by rw [lo, List.filter_cons, e, kl_irr]; exact lo_abv hA
   have e2 : hi (p :: l) k = l := by rw [hi, List.filter_cons, e, kl_irr]; exact hi_abv hA
   rw [e1, e2]
   exact .inl ⟨p.val, by rw [← e]; rfl⟩
  ·have hA : Abv l k := fun x hx => kl_trans e (h1 x hx)
   have e1 : lo (p :: l) k = [] := by rw [lo, List.filter_cons, kl_asymm e]; exact lo_abv hA
   have e2 : hi (p :: l) k = p :: l := by rw [hi, List.filter_cons, e, if_pos rfl]; congr 1; exact hi_abv hA
   rw [e1, e2]
   refine .inr ⟨rfl, hasL_f ?_⟩
   intro x hx
   rcases List.mem_cons.1 hx with rfl | hx
   ·exact fun e2 => kl_ne e e2.symm
   ·exact abv_ne hA x hx
theorem lo_Bel (l : List Kv) (k : Ky) : Bel (lo l k) k := fun x hx => (List.mem_filter.1 hx).2
theorem hi_Abv (l : List Kv) (k : Ky) : Abv (hi l k) k := fun x hx => (List.mem_filter.1 hx).2
theorem up_put {l : List Kv} (h : Up l) (k v : Ky) : Up (putL l k v) := by
 refine List.pairwise_append.2 ⟨h.filter _, List.pairwise_cons.2 ⟨hi_Abv l k, h.filter _⟩, fun x hx y hy => ?_⟩
 have h1 := lo_Bel l k x hx
 rcases List.mem_cons.1 hy with rfl | hy
 ·exact h1
 ·exact kl_trans h1 (hi_Abv l k y hy)
theorem up_del {l : List Kv} (h : Up l) (k : Ky) : Up (delL l k) :=
 List.pairwise_append.2 ⟨h.filter _, h.filter _, fun x hx y hy => kl_trans (lo_Bel l k x hx) (hi_Abv l k y hy)⟩
theorem put_len {l : List Kv} (h : Up l) (k v : Ky) : (putL l k v).length = if hasL l k = true then l.length else l.length + 1 := by
 have hh : (putL l k v).length = (lo l k).length + (hi l k).length + 1 := by simp [putL]; omega
 rcases up_lo_hi h k with ⟨u, hu⟩ | ⟨hu, hf⟩
 ·have h2 : hasL l k = true := by rw [hu]; exact has_hit u
  rw [if_pos h2, hh]
  have := congrArg List.length hu
  simp at this; omega
 ·rw [hf, if_neg (by simp), hh]
  have := congrArg List.length hu
  simp at this; omega
theorem del_len {l : List Kv} (h : Up l) (k : Ky) : (delL l k).length = if hasL l k = true then l.length - 1 else l.length := by
 have hh : (delL l k).length = (lo l k).length + (hi l k).length := by simp [delL]
 rcases up_lo_hi h k with ⟨u, hu⟩ | ⟨hu, hf⟩
 ·have h2 : hasL l k = true := by rw [hu]; exact has_hit u
  rw [if_pos h2, hh]
  have := congrArg List.length hu
  simp at this; omega
 ·rw [hf, if_neg (by simp), hh]
  have := congrArg List.length hu
  simp at this; omega
theorem del_not {l : List Kv} (h : Up l) {k : Ky} (hf : hasL l k = false) : delL l k = l := by
 rcases up_lo_hi h k with ⟨u, hu⟩ | ⟨hu, _⟩
 ·have h2 : hasL l k = true := by rw [hu]; exact has_hit u
  rw [hf] at h2; cases h2
 ·exact hu.symm
theorem get_not {l : List Kv} {k : Ky} (hf : hasL l k = false) : getL l k = [] := by
 unfold hasL at hf
 rw [List.any_eq_false] at hf
 unfold getL
 rw [List.find?_eq_none.2 hf]; rfl
end Go.Proofs.Bt
/- Balanced trees, in plain Lean: their pairs in order, their shape. -/
set_option autoImplicit false
namespace Go.Proofs.Bt
def ileave : List Kv → List (List Kv) → List Kv
 | _, [] => []
 | [], f :: _ => f
 | k :: ks, f :: fs => f ++ k :: ileave ks fs
def preI : List Kv → List (List Kv) → List Kv
 | k :: ks, f :: fs => f ++ k :: preI ks fs
 | _, _ => []
def postI : List Kv → List (List Kv) → List Kv
 | [], _ => []
 | k :: ks, fs => k :: ileave ks fs
theorem ileave_post (ks : List Kv) (f : List Kv) (fs : List (List Kv)) : ileave ks (f :: fs) = f ++ postI ks fs := by
 cases ks with
 | nil => simp [ileave, postI]
 | cons k ks => rfl
theorem ileave_pre : ∀ (K1 K2 : List Kv) (F1 F2 : List (List Kv)), K1.length = F1.length → ileave (K1 ++ K2) (F1 ++ F2) = preI K1 F1 ++ ileave K2 F2
 | [], K2, [], F2, _ => rfl
 | [], _, _ :: _, _, h => by simp at h
 | _ :: _, _, [], _, h => by simp at h
 | k :: K1, K2, f :: F1, F2, h => by
  simp only [List.cons_append, ileave, preI, ileave_pre K1 K2 F1 F2 (by simpa using h), List.append_assoc]
theorem ileave_join : ∀ (K K' : List Kv) (m : Kv) (F F' : List (List Kv)), F.length = K.length + 1 → ileave (K ++ m :: K') (F ++ F') = ileave K F ++ m :: ileave K' F'
 | _, _, _, [], _, h => by simp at h
 | [], K', m, [f], F', _ => by simp [ileave]
 | [], _, _, _ :: _ :: _, _, h => by simp at h
 | k :: K, K', m, f :: F, F', h => by
  simp only [List.cons_append, ileave, ileave_join K K' m F F' (by simpa using h), List.append_assoc]
def T : Nat → Type
 | 0 => List Kv
 | d + 1 => List Kv × List (T d)
def tks : (d : Nat) → T d → List Kv
 | 0, t => t
 | _ + 1, t => t.1
def flat : (d : Nat) → T d → List Kv
 | 0, t => t
 | d + 1, t => ileave t.1 (t.2.map (flat d))
def wf (m : Nat) : (d : Nat) → T d → Prop
 | 0, t => m ≤ List.length t ∧ List.length t ≤ 7
 | d + 1, t => m ≤ t.1.length ∧ t.1.length ≤ 7 ∧ t.2.length = t.1.length + 1 ∧ ∀ c ∈ t.2, wf 3 d c
theorem wf_ks {m d : Nat} {t : T d} (h : wf m d t) : m ≤ (tks d t).length ∧ (tks d t).length ≤ 7 := by
 cases d with
 | zero => exact h
 | succ d => exact ⟨h.1, h.2.1⟩
theorem wf_mk {m n d : Nat} {t : T d} (h : wf m d t) (h2 : n ≤ (tks d t).length) : wf n d t := by
 cases d with
 | zero => exact ⟨h2, h.2⟩
 | succ d => exact ⟨h2, h.2⟩
def preF (d : Nat) (K : List Kv) (A : List (T d)) : List Kv := preI K (A.map (flat d))
def postF (d : Nat) (K : List Kv) (B : List (T d)) : List Kv := postI K (B.map (flat d))
theorem flat_at {d : Nat} (K1 K2 : List Kv) (A B : List (T d)) (c : T d) (h : K1.length = A.length) : flat (d + 1) (K1 ++ K2, A ++ c :: B) = preF d K1 A ++ flat d c ++ postF d K2 B := by
 simp only [flat, List.map_append, List.map_cons]
 rw [ileave_pre K1 K2 _ _ (by simpa using h), ileave_post, List.append_assoc]; rfl
theorem postF_cons {d : Nat} (k : Kv) (K : List Kv) (c : T d) (B : List (T d)) : postF d (k :: K) (c :: B) = k :: (flat d c ++ postF d K B) := by
 show k :: ileave K (flat d c :: B.map (flat d)) = _
 rw [ileave_post]; rfl
theorem flat_2 {d : Nat} (K1 K2 : List Kv) (k : Kv) (A B : List (T d)) (c c' : T d) (h : K1.length = A.length) : flat (d + 1) (K1 ++ k :: K2, A ++ c :: c' :: B) = preF d K1 A ++ (flat d c ++ k :: flat d c') ++ postF d K2 B := by
 rw [flat_at K1 (k :: K2) A (c' :: B) c h, postF_cons]; simp
theorem pre_bel {k : Ky} : ∀ (K : List Kv) (F : List (List Kv)), Up (preI K F) → Bel K k → Bel (preI K F) k
 | [], _, _, _ => by intro y hy; simp [preI] at hy
 | _ :: _, [], _, _ => by intro y hy; simp [preI] at hy
 | x :: K, f :: F, h, hk => by
  simp only [preI] at h ⊢
  obtain ⟨h1, _, _, h4⟩ := up_mid h
  have hx := hk x (by simp)
  intro y hy
  rcases List.mem_append.1 hy with hy | hy
  ·exact kl_trans (h1 y hy) hx
  ·rcases List.mem_cons.1 hy with rfl | hy
   ·exact hx
   ·exact pre_bel K F h4 (fun z hz => hk z (by simp [hz])) y hy
theorem post_abv {k : Ky} : ∀ (K : List Kv) (F : List (List Kv)), Up (postI K F) → Abv K k → Abv (postI K F) k
 | [], _, _, _ => by intro y hy; simp [postI] at hy
 | x :: K, F, h, hk => by
  simp only [postI] at h ⊢
  have h1 := (List.pairwise_cons.1 h).1
  have hx := hk x (by simp)
  intro y hy
  rcases List.mem_cons.1 hy with rfl | hy
  ·exact hx
  ·exact kl_trans hx (h1 y hy)
theorem ks_sub : ∀ (K : List Kv) (F : List (List Kv)), F.length = K.length + 1 → K.Sublist (ileave K F)
 | [], _, _ => List.nil_sublist _
 | k :: K, [], h => by simp at h
 | k :: K, f :: F, h => by
  simp only [ileave]
  exact ((ks_sub K F (by simpa using h)).cons_cons k).trans (List.sublist_append_right f _)
theorem ks_up {m d : Nat} {t : T d} (hw : wf m d t) (h : Up (flat d t)) : Up (tks d t) := by
 cases d with
 | zero => exact h
 | succ d => exact h.sublist (ks_sub t.1 (t.2.map (flat d)) (by rw [List.length_map]; exact hw.2.2.1))
end Go.Proofs.Bt
