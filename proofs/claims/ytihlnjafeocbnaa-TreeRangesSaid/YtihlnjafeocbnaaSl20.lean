/- The operations on maps. -/
import Derived.MapKept
import Derived.Test.YtihlnjafeocbnaaSl19
set_option autoImplicit false
namespace Go.SL
/-- The block r is the map of these pairs. -/
def mpC {κ β : Type} [DecidableEq κ] (M : MTy κ β) (r : Nat) (l : List (κ × β)) : HProp := fun _ h => ∃ (es : Array MapEntry) (clock : Nat), h r = some (.map es clock) ∧ mrow M es.toList l ∧ (∀ x ∈ es.toList, x.born < clock) ∧ (es.toList.map (·.born)).Nodup
theorem mrow_len {κ β : Type} {M : MTy κ β} {es : List MapEntry} {l : List (κ × β)} (h : mrow M es l) : es.length = l.length := by
  have := congrArg List.length h
  simpa [mrow] using this
section
variable {κ β : Type} [DecidableEq κ] {M : MTy κ β} {P : Program} {E : World} {n : Nat} {ρ : Env} {L : List HProp} {dst : Option Tmp} {ty : TypeId} {pos : String} {after : Array Edge} {g : Option (Nat × Bool)}
theorem gobj {r : Nat} {es : Array MapEntry} {clock : Nat} {w : World} (hb : w.heap[r]? = some (.map es clock)) : (getObj r).run P w = .ok (.map es clock) w := by simp [getObj, Sem.run, hb]
theorem sobj {r : Nat} {es : Array MapEntry} {clock : Nat} {w : World} (o : Obj) (hb : w.heap[r]? = some (.map es clock)) : (setObj r o).run P w = .ok () { w with heap := w.heap.setIfInBounds r o } := by
  simp only [setObj, Sem.run, hb]
theorem run_checkKey_plain (M : MTy κ β) [u : TyU P M.kt M.kd] (e : Bool) (k : κ) (w : World) : (Instr.checkKey e 10000 M.kt (M.kenc k)).run P w = .ok () w := by
  have hs := M.same k k
  rcases M.plain with ⟨q, hq⟩ | hq
  · rw [hq] at hs
    have hu := u.h
    rw [hq] at hu
    rw [show (10000 : Nat) = 9999 + 1 from rfl, Instr.checkKey]
    simp only [Sem.run_bind, run_underlying hu, Result.andThen_ok]
    cases hk : M.kenc k <;> simp [hk, Instr.sameNow] at hs ⊢
  · rw [hq] at hs
    have hu := u.h
    rw [hq] at hu
    rw [show (10000 : Nat) = 9999 + 1 from rfl, Instr.checkKey]
    simp only [Sem.run_bind, run_underlying hu, Result.andThen_ok]
    cases hk : M.kenc k <;> simp [hk, Instr.sameNow] at hs ⊢
theorem run_findKey (M : MTy κ β) [u : TyU P M.kt M.kd] (k : κ) {es : List MapEntry} {l : List (κ × β)} (h : mrow M es l) (w : World) : (Instr.findKey M.kt (M.kenc k) es).run P w = .ok ((midx l k).bind fun j => (mget l k).map fun v => (j, M.venc v)) w := by
  simp only [Instr.findKey, Sem.run_bind, run_underlying u.h, Result.andThen_ok, findNow_eq M k es l 0 h, Nat.zero_add, Sem.run_pure]
theorem find_some {l : List (κ × β)} {k : κ} {v : β} (h : mget l k = some v) : ∃ j, midx l k = some j := by
  have := midx_get l k
  rw [h] at this
  exact Option.isSome_iff_exists.1 this
theorem find_none {l : List (κ × β)} {k : κ} (h : mget l k = none) : midx l k = none := by
  have := midx_get l k
  rw [h] at this
  simpa using this
theorem run_lookup (M : MTy κ β) {t sz by_ : Nat} {z : Value} [ut : TyU P t (.map M.kt M.vt)] [u : TyU P M.kt M.kd] [v : TyI P M.vt sz z by_] (k : κ) (ok : Bool) {r : Nat} {es : Array MapEntry} {clock : Nat} {l : List (κ × β)} {w : World} (hb : w.heap[r]? = some (.map es clock)) (h : mrow M es.toList l) :
    (Instr.lookup t (.map (some r)) (M.kenc k) ok).run P w = .ok (if ok then .tuple #[((mget l k).map M.venc).getD z, .bool (mget l k).isSome] else ((mget l k).map M.venc).getD z) w := by
  obtain ⟨i, hi, _, hz, _⟩ := v.get
  simp only [Instr.lookup, Sem.run_bind, run_underlying ut.h, Result.andThen_ok, gobj hb, Sem.run_pure, run_checkKey_plain M, run_findKey M k h]
  cases hg : mget l k with
  | none =>
    rw [find_none hg]
    cases ok <;> simp [zeroValue, typeInfo, hi, hz]
  | some x =>
    obtain ⟨j, hj⟩ := find_some hg
    rw [hj]
    cases ok <;> simp
/-- m[k] -/
theorem Q_mget (i : Nat) {t sz by_ r : Nat} {z : Value} {x y : Operand} {l : List (κ × β)} (k : κ) [ut : TyU P t (.map M.kt M.vt)] [u : TyU P M.kt M.kd] [v : TyI P M.vt sz z by_] (hL : L[i]? = some (mpC M r l)) (hx : ρ.ev x = some (.map (some r))) (hy : ρ.ev y = some (M.kenc k)) :
    QOp P E n ⟨dst, .lookup t x y false, ty, pos, after, g⟩ ρ L (((mget l k).map M.venc).getD z) := fun a w ha hs => by
  obtain ⟨p, ⟨es, clock, hb, hr, _, _⟩, hw⟩ := hs.at hL
  simp only [execOp, ha.ev hx, ha.ev hy]
  rw [Sem.run_bind, run_lookup M k false (hw r _ hb).2 hr]
  simp
/-- v, ok := m[k] -/
theorem Q_mgetOk (i : Nat) {t sz by_ r : Nat} {z : Value} {x y : Operand} {l : List (κ × β)} (k : κ) [ut : TyU P t (.map M.kt M.vt)] [u : TyU P M.kt M.kd] [v : TyI P M.vt sz z by_] (hL : L[i]? = some (mpC M r l)) (hx : ρ.ev x = some (.map (some r))) (hy : ρ.ev y = some (M.kenc k)) :
    QOp P E n ⟨dst, .lookup t x y true, ty, pos, after, g⟩ ρ L (.tuple #[((mget l k).map M.venc).getD z, .bool (mget l k).isSome]) := fun a w ha hs => by
  obtain ⟨p, ⟨es, clock, hb, hr, _, _⟩, hw⟩ := hs.at hL
  simp only [execOp, ha.ev hx, ha.ev hy]
  rw [Sem.run_bind, run_lookup M k true (hw r _ hb).2 hr]
  simp
/-- len(m) -/
theorem Q_mlen (i : Nat) {t a b r : Nat} {x : Operand} {l : List (κ × β)} [ut : TyU P t (.map a b)] (hL : L[i]? = some (mpC M r l)) (hx : ρ.ev x = some (.map (some r))) :
    QOp P E n ⟨dst, .call ⟨.builtin .len, #[x], #[t]⟩, ty, pos, after, g⟩ ρ L (.int .i64 (l.length : Int)) := fun a' w ha hs => by
  obtain ⟨p, ⟨es, clock, hb, hr, _, _⟩, hw⟩ := hs.at hL
  have hlen := mrow_len hr
  refine run_builtin (args := [x]) (vs := [.map (some r)]) a' w ha (by simp [Env.evs, hx]) (fun cs => ?_)
  simp only [builtin, Builtin.len_]
  simp [run_underlying ut.h, gobj (hw r _ hb).2, goInt]
  have : es.size = l.length := by simpa using hlen
  omega
theorem turned_set (w : World) (r : Nat) (o o' : Obj) (h : w.heap[r]? = some o) : Turned w { w with heap := w.heap.setIfInBounds r o' } r o' := by
  have hlt : r < w.heap.size := (Array.getElem?_eq_some_iff.1 h).1
  refine ⟨rfl, rfl, rfl, by simp, fun k hk _ => ?_, ?_⟩
  · simp [Array.getElem?_setIfInBounds, Ne.symm hk]
  · simp [Array.getElem?_setIfInBounds, hlt]
theorem mrow_mset : ∀ (es : List MapEntry) (l : List (κ × β)) (k : κ) (v : β) (j : Nat), mrow M es l → midx l k = some j → mrow M (es.modify j fun e => { e with key := M.kenc k, val := M.venc v }) (mset l k v) ∧ (es.modify j fun e => { e with key := M.kenc k, val := M.venc v }).map (·.born) = es.map (·.born) ∧ ∃ e, es[j]? = some e ∧ e.key = M.kenc k
  | [], [], _, _, _, _, h => by simp [midx] at h
  | [], _ :: _, _, _, _, h, _ => by simp [mrow] at h
  | _ :: _, [], _, _, _, h, _ => by simp [mrow] at h
  | e :: es, x :: l, k, v, j, h, hj => by
    have h' := h
    simp only [mrow, List.map_cons, List.cons.injEq, Prod.mk.injEq] at h
    obtain ⟨⟨h1, h2⟩, h3⟩ := h
    simp only [midx] at hj
    simp only [mset]
    split at hj
    · rename_i hx
      cases hj
      rw [if_pos hx]
      refine ⟨?_, by simp, e, rfl, by rw [h1, hx]⟩
      simp only [List.modify_zero_cons, mrow, List.map_cons]
      rw [show List.map (fun e => (e.key, e.val)) es = List.map (fun x => (M.kenc x.1, M.venc x.2)) l from h3]
    · rename_i hx
      rw [if_neg hx]
      cases hm : midx l k with
      | none => rw [hm] at hj; cases hj
      | some q =>
        rw [hm] at hj
        cases hj
        obtain ⟨i1, i2, e2, i3, i4⟩ := mrow_mset es l k v q h3 hm
        refine ⟨?_, by simp [i2], e2, by simpa using i3, i4⟩
        simp only [List.modify_succ_cons, mrow, List.map_cons, h1, h2]
        congr 1
theorem mrow_push (es : List MapEntry) (l : List (κ × β)) (k : κ) (v : β) (b : Nat) (h : mrow M es l) (hk : mget l k = none) : mrow M (es ++ [{ key := M.kenc k, val := M.venc v, born := b }]) (mset l k v) := by
  have e : mset l k v = l ++ [(k, v)] := by
    clear h
    induction l with
    | nil => rfl
    | cons x l ih =>
      rw [mget_cons] at hk
      split at hk
      · cases hk
      · rename_i hx; simp only [mset, if_neg hx, ih hk, List.cons_append]
  rw [e]
  simp only [mrow, List.map_append, List.map_cons, List.map_nil] at h ⊢
  rw [h]
/-- m[k] = v -/
theorem O_mset (i : Nat) {K : Value → List HProp → Prop} {t r : Nat} {x y z : Operand} {l : List (κ × β)} (k : κ) (v : β) [ut : TyU P t (.map M.kt M.vt)] [u : TyU P M.kt M.kd] (hL : L[i]? = some (mpC M r l)) (hx : ρ.ev x = some (.map (some r))) (hy : ρ.ev y = some (M.kenc k)) (hz : ρ.ev z = some (M.venc v))
    (hK : K undef (L.set i (mpC M r (mset l k v)))) : JOp P E n ⟨none, .mapUpdate t x y z, ty, pos, after, g⟩ K ρ L := fun a w ha hs next Q hn => by
  obtain ⟨p, ⟨es, clock, hb, hr, h1, h2⟩, hw⟩ := hs.at hL
  have hbw := (hw r _ hb).2
  have hfin : ∀ (es' : Array MapEntry) (c' : Nat), mrow M es'.toList (mset l k v) → (∀ x ∈ es'.toList, x.born < c') → (es'.toList.map (·.born)).Nodup → Sat E { w with heap := w.heap.setIfInBounds r (.map es' c') } (L.set i (mpC M r (mset l k v))) := fun es' c' q1 q2 q3 => by
    refine hs.turn_at hL (fun p' ⟨es2, c2, hp2, _⟩ _ => ⟨⟨_, hp2⟩, es', c', by simp, q1, q2, q3⟩) (turned_set w r _ _ hbw)
  have key : ∃ w', (Instr.mapUpdate t (.map (some r)) (M.kenc k) (M.venc v)).run P w = .ok () w' ∧ Sat E w' (L.set i (mpC M r (mset l k v))) := by
    simp only [Instr.mapUpdate, Sem.run_bind, run_underlying ut.h, Result.andThen_ok, gobj hbw, run_checkKey_plain M, run_findKey M k hr]
    cases hg : mget l k with
    | none =>
      rw [find_none hg]
      simp only [Option.bind_none]
      refine ⟨_, sobj _ hbw, hfin _ _ ?_ ?_ ?_⟩
      · simp only [Array.toList_push]; exact mrow_push _ _ _ _ _ hr hg
      · intro x hx
        simp only [Array.toList_push, List.mem_append, List.mem_singleton] at hx
        rcases hx with hx | rfl
        · have := h1 x hx; omega
        · simp
      · simp only [Array.toList_push, List.map_append, List.map_cons, List.map_nil]
        rw [List.nodup_append]
        refine ⟨h2, by simp, ?_⟩
        intro x hx y hy
        simp only [List.mem_singleton] at hy
        subst hy
        obtain ⟨e, he, rfl⟩ := List.mem_map.1 hx
        have := h1 e he
        omega
    | some x =>
      obtain ⟨j, hj⟩ := find_some hg
      obtain ⟨m1, m2, e, m3, m4⟩ := mrow_mset es.toList l k v j hr hj
      rw [hj]
      simp only [Option.bind_some, Option.map_some]
      have hej : es[j]? = some e := by simpa using m3
      have hst : (Instr.keyThatStays (((es[j]?).map (·.key)).getD (M.kenc k)) (M.kenc k)).run P w = .ok (M.kenc k) w := by
        rw [hej]
        simp only [Option.map_some, Option.getD_some, m4, Instr.keyThatStays, M.bits, if_true, Sem.run_pure]
      simp only [Sem.run_bind, hst, Result.andThen_ok]
      refine ⟨_, sobj _ hbw, hfin _ _ ?_ ?_ ?_⟩
      · rw [Array.toList_modify]; exact m1
      · intro x hx
        rw [Array.toList_modify] at hx
        have hx2 : x.born ∈ (es.toList.modify j fun e => { e with key := M.kenc k, val := M.venc v }).map (·.born) := List.mem_map_of_mem hx
        rw [m2] at hx2
        obtain ⟨e', he', e2⟩ := List.mem_map.1 hx2
        rw [← e2]; exact h1 e' he'
      · rw [Array.toList_modify, m2]; exact h2
  obtain ⟨w', hr', hs'⟩ := key
  unfold Oper.wp
  simp only [execOp, ha.ev hx, ha.ev hy, ha.ev hz]
  simp only [Sem.run_bind, hr', Result.andThen_ok, Sem.run_pure]
  exact hn _ _ w' hK hs'
theorem mrow_mdel : ∀ (es : List MapEntry) (l : List (κ × β)) (k : κ) (j : Nat), mrow M es l → midx l k = some j → mrow M (es.eraseIdx j) (mdel l k)
  | [], [], _, _, _, h => by simp [midx] at h
  | [], _ :: _, _, _, h, _ => by simp [mrow] at h
  | _ :: _, [], _, _, h, _ => by simp [mrow] at h
  | e :: es, x :: l, k, j, h, hj => by
    simp only [mrow, List.map_cons, List.cons.injEq, Prod.mk.injEq] at h
    obtain ⟨⟨h1, h2⟩, h3⟩ := h
    simp only [midx] at hj
    simp only [mdel]
    split at hj
    · rename_i hx
      cases hj
      rw [if_pos hx]
      exact h3
    · rename_i hx
      rw [if_neg hx]
      cases hm : midx l k with
      | none => rw [hm] at hj; cases hj
      | some q =>
        rw [hm] at hj
        cases hj
        have := mrow_mdel es l k q h3 hm
        simp only [Option.map_some, List.eraseIdx_cons_succ, mrow, List.map_cons, h1, h2]
        congr 1
theorem mdel_none (l : List (κ × β)) (k : κ) (h : mget l k = none) : mdel l k = l := by
  induction l with
  | nil => rfl
  | cons x l ih =>
    rw [mget_cons] at h
    split at h
    · cases h
    · rename_i hx; simp only [mdel, if_neg hx, ih h]
/-- delete(m, k) -/
theorem O_mdel (i : Nat) {K : Value → List HProp → Prop} {t t' r : Nat} {x y : Operand} {l : List (κ × β)} (k : κ) [ut : TyU P t (.map M.kt M.vt)] [u : TyU P M.kt M.kd] (hL : L[i]? = some (mpC M r l)) (hx : ρ.ev x = some (.map (some r))) (hy : ρ.ev y = some (M.kenc k))
    (hK : K (.tuple #[]) (L.set i (mpC M r (mdel l k)))) : JOp P E n ⟨dst, .call ⟨.builtin .delete, #[x, y], #[t, t']⟩, ty, pos, after, g⟩ K ρ L := fun a w ha hs next Q hn => by
  obtain ⟨p, ⟨es, clock, hb, hr, h1, h2⟩, hw⟩ := hs.at hL
  have hbw := (hw r _ hb).2
  have hfin : ∀ (es' : Array MapEntry), mrow M es'.toList (mdel l k) → (∀ x ∈ es'.toList, x.born < clock) → (es'.toList.map (·.born)).Nodup → Sat E { w with heap := w.heap.setIfInBounds r (.map es' clock) } (L.set i (mpC M r (mdel l k))) := fun es' q1 q2 q3 => by
    refine hs.turn_at hL (fun p' ⟨es2, c2, hp2, _⟩ _ => ⟨⟨_, hp2⟩, es', clock, by simp, q1, q2, q3⟩) (turned_set w r _ _ hbw)
  have key : ∃ w', (Builtin.delete_ #[t, t'] ty #[.map (some r), M.kenc k]).run P w = .ok (.tuple #[]) w' ∧ Sat E w' (L.set i (mpC M r (mdel l k))) := by
    cases hg : mget l k with
    | none =>
      refine ⟨_, ?_, hfin es (by rw [mdel_none l k hg]; exact hr) h1 h2⟩
      simp [Builtin.delete_, run_underlying ut.h, gobj hbw, run_checkKey_plain M, run_findKey M k hr, find_none hg, sobj _ hbw]
    | some x =>
      obtain ⟨j, hj⟩ := find_some hg
      refine ⟨_, ?_, hfin (es.eraseIdxIfInBounds j) ?_ ?_ ?_⟩
      · simp [Builtin.delete_, run_underlying ut.h, gobj hbw, run_checkKey_plain M, run_findKey M k hr, hj, hg, sobj _ hbw]
      · rw [Array.toList_eraseIdxIfInBounds]; exact mrow_mdel _ _ _ _ hr hj
      · intro x hx
        rw [Array.toList_eraseIdxIfInBounds] at hx
        exact h1 x (List.mem_of_mem_eraseIdx hx)
      · rw [Array.toList_eraseIdxIfInBounds]
        exact h2.sublist ((List.eraseIdx_sublist _ _).map _)
  obtain ⟨w', hr', hs'⟩ := key
  unfold Oper.wp
  simp only [execOp, resolve]
  have e1 : (Array.map a.eval #[x, y]) = #[.map (some r), M.kenc k] := by simp [ha.ev hx, ha.ev hy]
  simp only [run_bind_pure, invoke, e1, builtin]
  simp only [Sem.run_bind, hr', Result.andThen_ok, Sem.run_pure]
  exact hn _ _ w' hK hs'
/-- make(map[..]..) -/
theorem O_mnew (M : MTy κ β) {K : Value → List HProp → Prop} {t : Nat} (hK : ∀ r, K (.map (some r)) (mpC M r [] :: L)) : JOp P E n ⟨dst, .makeMap t none, ty, pos, after, g⟩ K ρ L := fun c w ha hs next Q hn => by
  unfold Oper.wp
  simp only [execOp, Instr.makeMap, Option.map_none]
  simp only [Sem.run_bind, Sem.run_pure, Result.andThen_ok, run_newObj]
  refine hn _ _ _ (hK w.heap.size) ?_
  refine (hs.newed (newed_alloc w (.map #[] 0))).weaken fun p hp => ⟨#[], 0, hp, rfl, by simp, by simp⟩
end
end Go.SL
