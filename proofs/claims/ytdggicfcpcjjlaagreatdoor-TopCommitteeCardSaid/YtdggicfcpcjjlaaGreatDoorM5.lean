/- Part 5 of the texts below the row: Sl4. -/
import Derived.Laws.AppendOwn
import Derived.Laws.MakeOwn
import Derived.Lib.AppendStr
import Derived.Test.YtdggicfcpcjjlaaGreatDoorM1
import Derived.Test.YtdggicfcpcjjlaaGreatDoorM4
/- Memory: blocks of cells (structs behind pointers), slices that are owned or read, and the rules of the operations on them. -/
set_option autoImplicit false
namespace Go.SL
/-- A block of cells: its frozen part, if any, lies behind its cells. -/
def cel (b : Nat) (cs : List Value) (t : Nat) : HProp := fun _ h => ∃ fr : Nat × Nat, h b = some (.cells cs.toArray t fr) ∧ (fr.2 ≤ fr.1 ∨ cs.length ≤ fr.1)
section
variable {E w : World} {L : List HProp}
theorem Sat.map_at (h : Sat E w L) {i : Nat} {c d : HProp} (hi : L[i]? = some c) (hc : ∀ g, c E g → d E g) : Sat E w (L.set i d) := by
 obtain ⟨fr, f1, f2, f3⟩ := h.own
 have hlt : i < L.length := (List.getElem?_eq_some_iff.1 hi).1
 refine ⟨h.os, h.tape, h.output, h.size, h.old, fr, ?_, by simpa using f2, by simpa using f3⟩
 intro j x hx
 by_cases e : j = i
 ·subst e
  rw [List.getElem?_set_self hlt] at hx
  obtain rfl := Option.some.inj hx
  exact hc _ (f1 j c hi)
 ·rw [List.getElem?_set_ne (Ne.symm e)] at hx
  exact f1 j x hx
theorem Sat.swap {c : HProp} (h : Sat E w (c :: L)) (i : Nat) : Sat E w (L.set i c) := by
 obtain ⟨fr, f1, f2, f3⟩ := h.own
 refine ⟨h.os, h.tape, h.output, h.size, h.old, fun j => if j = i then fr 0 else fr (j + 1), ?_, ?_, ?_⟩
 ·intro j x hx
  by_cases e : j = i
  ·subst e
   have hlt : j < L.length := by have := (List.getElem?_eq_some_iff.1 hx).1; simpa using this
   rw [List.getElem?_set_self hlt] at hx
   obtain rfl := Option.some.inj hx
   simp only [if_true]; exact f1 0 _ rfl
  ·rw [List.getElem?_set_ne (Ne.symm e)] at hx
   simp only [e, if_false]; exact f1 (j + 1) x (by simpa using hx)
 ·intro j hj
  rw [List.length_set] at hj
  by_cases e : j = i
  ·simp only [e, if_true]; exact f2 0 (by simp)
  ·simp only [e, if_false]; exact f2 (j + 1) (by simpa using hj)
 ·intro j k hj hk hne
  rw [List.length_set] at hj hk
  by_cases e : j = i <;> by_cases e' : k = i <;> simp only [e, e', if_true, if_false]
  ·omega
  ·exact f3 0 (k + 1) (by simp) (by simpa using hk) (by omega)
  ·exact f3 (j + 1) 0 (by simpa using hj) (by simp) (by omega)
  ·exact f3 (j + 1) (k + 1) (by simpa using hj) (by simpa using hk) (by omega)
/-- What a chunk's piece says of the world. -/
theorem Sat.at (h : Sat E w L) {i : Nat} {c : HProp} (hi : L[i]? = some c) : ∃ g, c E g ∧ ∀ b o, g b = some o → E.heap.size ≤ b ∧ w.heap[b]? = some o := by
 obtain ⟨fr, f1, f2, f3⟩ := h.own
 exact ⟨fr i, f1 i c hi, f2 i (List.getElem?_eq_some_iff.1 hi).1⟩
/-- One block of the i-th chunk became another one. -/
theorem Sat.turn_at {w' : World} (h : Sat E w L) {i b : Nat} {c d : HProp} {o : Obj} (hi : L[i]? = some c) (hc : ∀ g, c E g → (∀ b o, g b = some o → w.heap[b]? = some o) → (∃ o', g b = some o') ∧ d E (fun k => if k = b then some o else g k)) (ht : Turned w w' b o) : Sat E w' (L.set i d) := by
 have hlt : i < L.length := (List.getElem?_eq_some_iff.1 hi).1
 obtain ⟨fr, f1, f2, f3⟩ := h.own
 obtain ⟨⟨o', h1⟩, hd⟩ := hc _ (f1 i c hi) (fun b o hb => (f2 i hlt b o hb).2)
 have hb := f2 i hlt b o' h1
 refine ⟨ht.os.trans h.os, ht.tape.trans h.tape, ht.output.trans h.output, Nat.le_trans h.size ht.size, fun k hk => ?_,
  fun j => if j = i then (fun k => if k = b then some o else fr i k) else fr j, ?_, ?_, ?_⟩
 ·rw [ht.other k (by omega) (Nat.lt_of_lt_of_le hk h.size)]; exact h.old k hk
 ·intro j x hx
  by_cases e : j = i
  ·subst e
   rw [List.getElem?_set_self hlt] at hx
   obtain rfl := Option.some.inj hx
   simpa using hd
  ·rw [List.getElem?_set_ne (Ne.symm e)] at hx
   simp only [e, if_false]
   exact f1 j x hx
 ·intro j hj k x hx
  rw [List.length_set] at hj
  by_cases e : j = i
  ·subst e
   simp only [if_true] at hx
   by_cases ek : k = b
   ·subst ek; simp at hx; subst hx; exact ⟨hb.1, ht.here⟩
   ·simp only [ek, if_false] at hx
    have := f2 j hj k x hx
    exact ⟨this.1, by rw [ht.other k ek (Array.getElem?_eq_some_iff.1 this.2).1]; exact this.2⟩
  ·simp only [e, if_false] at hx
   have := f2 j hj k x hx
   have hkb : k ≠ b := by
    intro ek; subst ek
    have := f3 j i hj hlt e k
    rw [hx, h1] at this; simp at this
   exact ⟨this.1, by rw [ht.other k hkb (Array.getElem?_eq_some_iff.1 this.2).1]; exact this.2⟩
 ·intro j k hj hk hne x
  rw [List.length_set] at hj hk
  have key : ∀ m, m < L.length → m ≠ i → ((if x = b then some o else fr i x) = none ∨ fr m x = none) := fun m hm hmi => by
   by_cases ex : x = b
   ·subst ex
    right
    have := f3 m i hm hlt hmi x
    rw [h1] at this; simpa using this
   ·simp only [ex, if_false]; exact f3 i m hlt hm (Ne.symm hmi) x
  by_cases e : j = i
  ·subst e
   have e2 : k ≠ j := Ne.symm hne
   simp only [if_true, e2, if_false]
   exact key k hk e2
  ·simp only [e, if_false]
   by_cases e2 : k = i
   ·subst e2
    simp only [if_true]
    exact (key j hj e).symm
   ·simp only [e2, if_false]; exact f3 j k hj hk hne x
end
/-! ### Running loads and stores over lists of cells -/
section
variable {P : Program} {w : World}
theorem addr_add (b o i : Nat) : (⟨b, o, none⟩ : Addr).add i = ⟨b, o + i, none⟩ := by unfold Addr.add; split <;> simp_all
theorem addr_add_add (a : Addr) (i j : Nat) : (a.add i).add j = a.add (i + j) := by
 unfold Addr.add
 by_cases h1 : i = 0
 ·subst h1; simp
 ·by_cases h2 : j = 0
  ·subst h2; simp [h1]
  ·simp [h1, h2, Nat.add_assoc]
theorem run_cells (a : Addr) (vs : List Value) (h : ∀ (j : Nat) u, vs[j]? = some u → w.cell? (a.add j) = some u) (n : Nat) (hn : n = vs.length) : (loadCells a n).run P w = .ok vs.toArray w := by
 subst hn
 have key : ∀ (k i : Nat) (acc : Array Value), (∀ j, j < k → ∃ u, vs[i + j]? = some u) → (loadCellsFrom a i k acc).run P w = .ok (acc ++ ((vs.drop i).take k).toArray) w := by
  intro k
  induction k with
  | zero => intro i acc _; simp [loadCellsFrom]
  | succ k ih =>
   intro i acc hk
   obtain ⟨u, hu⟩ := hk 0 (by omega)
   have hu : vs[i]? = some u := by simpa using hu
   have hc := h i u hu
   simp only [loadCellsFrom, Sem.run_bind, run_load, hc, Result.andThen_ok]
   rw [ih (i + 1) (acc.push u) (fun j hj => by obtain ⟨x, hx⟩ := hk (j + 1) (by omega); exact ⟨x, by rw [← hx]; congr 1; omega⟩)]
   congr 1
   have hlt : i < vs.length := (List.getElem?_eq_some_iff.1 hu).1
   have hd : vs.drop i = u :: vs.drop (i + 1) := by
    rw [List.drop_eq_getElem_cons hlt]
    congr 1
    have := List.getElem?_eq_getElem hlt
    rw [hu] at this
    exact (Option.some.inj this).symm
   rw [hd, List.take_succ_cons]
   apply Array.ext'
   simp
 unfold loadCells
 rw [key vs.length 0 #[] (fun j hj => ⟨vs[j], by simp [hj]⟩)]
 simp
theorem take_set_succ (cs : List Value) (k : Nat) (v : Value) (h : k < cs.length) : (cs.set k v).take (k + 1) = cs.take k ++ [v] := by
 apply List.ext_getElem?
 intro j
 simp only [List.getElem?_take, List.getElem?_set, List.getElem?_append, List.length_take]
 rcases Nat.lt_trichotomy j k with hj | hj | hj
 ·simp [show j < k + 1 by omega, show k ≠ j by omega, show j < cs.length by omega, hj]
  omega
 ·subst hj; simp [h, Nat.min_eq_left (Nat.le_of_lt h)]
 ·have : ¬ j < k + 1 := by omega
  have h2 : ¬ j < min k cs.length := by omega
  simp only [this, if_false, h2]
  rw [Nat.min_eq_left (Nat.le_of_lt h)]
  rw [List.getElem?_eq_none (by simp; omega)]
theorem drop_set_lt (cs : List Value) (k m : Nat) (v : Value) (h : k < m) : (cs.set k v).drop m = cs.drop m := by
 apply List.ext_getElem?
 intro j
 simp [List.getElem?_drop, show ¬ k = m + j by omega]
theorem run_storeCells (b t : Nat) (fr : Nat × Nat) : ∀ (vs : List Value) (o i : Nat) (cs : List Value) (w : World), w.heap[b]? = some (.cells cs.toArray t fr) → (fr.2 ≤ fr.1 ∨ cs.length ≤ fr.1) → o + i + vs.length ≤ cs.length →
 (∀ v ∈ vs, v.oneCell' = true) → ∃ w', (storeCells ⟨b, o, none⟩ vs i).run P w = .ok () w' ∧ Turned w w' b (.cells (cs.take (o + i) ++ vs ++ cs.drop (o + i + vs.length)).toArray t fr)
 | [], o, i, cs, w, hb, _, _, _ => ⟨w, rfl, rfl, rfl, rfl, Nat.le_refl _, fun _ _ _ => rfl, by simpa using hb⟩
 | v :: r, o, i, cs, w, hb, hf, hl, h1 => by
  have hlt : b < w.heap.size := (Array.getElem?_eq_some_iff.1 hb).1
  simp only [List.length_cons] at hl
  have hcell : w.cell? ⟨b, o + i, none⟩ = some cs[o + i] := by simp [World.cell?, hb, show o + i < cs.length by omega]
  have hfro : w.frozen? ⟨b, o + i, none⟩ = false := by
   simp only [World.frozen?, hb]
   rcases hf with h | h <;> simp <;> omega
  have ht : Turned w (w.setCell ⟨b, o + i, none⟩ v) b (.cells (cs.set (o + i) v).toArray t fr) := by
   refine ⟨rfl, rfl, rfl, by simp [World.setCell], fun k hk _ => ?_, ?_⟩
   ·simp only [World.setCell, Array.getElem?_modify]
    rw [if_neg (Ne.symm hk)]
   ·simp only [World.setCell, Array.getElem?_modify, if_true, hb]
    simp
  obtain ⟨w', hr, ht'⟩ := run_storeCells b t fr r o (i + 1) (cs.set (o + i) v) (w.setCell ⟨b, o + i, none⟩ v) ht.here (by rw [List.length_set]; exact hf) (by rw [List.length_set]; omega) (fun x hx => h1 x (by simp [hx]))
  refine ⟨w', ?_, ht'.os.trans ht.os, ht'.tape.trans ht.tape, ht'.output.trans ht.output, Nat.le_trans ht.size ht'.size, fun k hk hk' => ?_, ?_⟩
  ·simp only [storeCells, Sem.run_bind, addr_add]
   rw [run_store P w _ v _ (h1 v (by simp)), hcell]
   simp only [hfro, Bool.false_eq_true, if_false, Result.andThen_ok]
   exact hr
  ·rw [ht'.other k hk (Nat.lt_of_lt_of_le hk' ht.size), ht.other k hk hk']
  ·rw [ht'.here]
   congr 3
   have e1 : (cs.set (o + i) v).take (o + (i + 1)) = cs.take (o + i) ++ [v] := take_set_succ cs (o + i) v (by omega)
   have e2 : (cs.set (o + i) v).drop (o + (i + 1) + r.length) = cs.drop (o + i + (r.length + 1)) := by
    rw [show o + (i + 1) + r.length = o + i + (r.length + 1) by omega]
    exact drop_set_lt cs (o + i) _ v (by omega)
   rw [e1, e2]
   simp
theorem newed_alloc (w : World) (o : Obj) : Newed w (w.alloc o) w.heap.size o :=
 ⟨rfl, rfl, rfl, Nat.le_refl _, by simp, fun k hk => heap_alloc_old w o k hk, heap_alloc_new w o⟩
theorem newed_drew_alloc (w : World) (o : Obj) : Newed w (w.drew.alloc o) w.heap.size o :=
 ⟨rfl, rfl, rfl, Nat.le_refl _, by simp, fun k hk => heap_alloc_old w.drew o k hk, heap_alloc_new w.drew o⟩
end
def isAggD : TypeDesc → Bool
 | .struct _ => true
 | .array _ _ => true
 | _ => false
theorem run_isAgg {P : Program} {t : Nat} {d : TypeDesc} (h : P.underlying t = some d) (w : World) : (isAgg t).run P w = .ok (isAggD d) w := by
 cases d <;> simp [isAgg, run_underlying h, isAggD]
/-! ### Loads and stores through a pointer to a block of cells -/
section
variable {P : Program} {E : World} {n : Nat} {ρ : Env} {L : List HProp} {dst : Option Tmp} {ty : TypeId} {pos : String} {after : Array Edge} {g : Option (Nat × Bool)}
theorem Sat.cel_at {w : World} (h : Sat E w L) {i b t : Nat} {cs : List Value} (hi : L[i]? = some (cel b cs t)) :
 ∃ fr, w.heap[b]? = some (.cells cs.toArray t fr) ∧ (fr.2 ≤ fr.1 ∨ cs.length ≤ fr.1) ∧ E.heap.size ≤ b := by
 obtain ⟨p, ⟨fr, h1, h2⟩, h3⟩ := h.at hi
 exact ⟨fr, (h3 b _ h1).2, h2, (h3 b _ h1).1⟩
theorem Sat.cel_cell {w : World} (h : Sat E w L) {i b t : Nat} {cs : List Value} (hi : L[i]? = some (cel b cs t)) (j : Nat) (u : Value) (hu : cs[j]? = some u) : w.cell? ⟨b, j, none⟩ = some u := by
 obtain ⟨fr, h1, _⟩ := h.cel_at hi
 simp [World.cell?, h1, hu]
/-- Where a field lies. -/
class FldOff (P : Program) (s f : Nat) (off : outParam Nat) : Prop where
 h : ∀ (w : World) (a : Addr), (Instr.fieldAt s (.pointer (some a)) f).run P w = .ok (.pointer (some (a.add off))) w
theorem FldOff.of {s f : Nat} {fs : Array Field} {fd : Field} {sz by_ : Nat} {z : Value} (u : P.underlying s = some (.struct fs)) (hf : fs[f]? = some fd) (v : TyI P fd.type sz z by_) (hz : sz ≠ 0) : FldOff P s f fd.offset := ⟨fun w a => by
 obtain ⟨i, hi, hs, _⟩ := v.get
 simp [Instr.fieldAt, run_underlying u, hf, Instr.sureAddr, fieldPlace, sizeOf, typeInfo, hi, hs, hz]⟩
theorem Q_fa0 {s f b off : Nat} {x : Operand} [v : FldOff P s f off] (hx : ρ.ev x = some (.pointer (some ⟨b, 0, none⟩))) :
 QOp P E n ⟨dst, .fieldAddr s x f, ty, pos, after, g⟩ ρ L (.pointer (some ⟨b, off, none⟩)) := fun c w ha _ => by
 have h1 := v.h w ⟨b, 0, none⟩
 rw [addr_add, Nat.zero_add] at h1
 simp [execOp, ha.ev hx, h1]
theorem Q_fa {s f b o o' off : Nat} {x : Operand} [v : FldOff P s f off] (hx : ρ.ev x = some (.pointer (some ⟨b, o, none⟩))) (ho : o + off = o') :
 QOp P E n ⟨dst, .fieldAddr s x f, ty, pos, after, g⟩ ρ L (.pointer (some ⟨b, o', none⟩)) := fun c w ha _ => by
 have h1 := v.h w ⟨b, o, none⟩
 rw [addr_add, ho] at h1
 simp [execOp, ha.ev hx, h1]
/-- A cell. -/
theorem Q_ld (i : Nat) {t b o tb : Nat} {x : Operand} {cs : List Value} {d : TypeDesc} {v : Value} [u : TyU P t d] (hx : ρ.ev x = some (.pointer (some ⟨b, o, none⟩))) (hi : L[i]? = some (cel b cs tb)) (hd : isAggD d = false) (hv : cs[o]? = some v) :
 QOp P E n ⟨dst, .load t x, ty, pos, after, g⟩ ρ L v := fun c w ha hs => by
 have h1 := hs.cel_cell hi o v hv
 simp only [execOp, ha.ev hx]
 simp [Instr.loadAt, Instr.sureAddr, loadVar, run_isAgg u.h, hd, h1]
/-- A part of a list of cells, written out. -/
class SubL (cs : List Value) (o sz : Nat) (vs : outParam (List Value)) : Prop where
 h : (cs.drop o).take sz = vs
 le : o + sz ≤ cs.length
instance (l : List Value) : SubL l 0 0 [] := ⟨rfl, by simp⟩
instance (a : Value) (l vs : List Value) (s : Nat) [g : SubL l 0 s vs] : SubL (a :: l) 0 (s + 1) (a :: vs) := ⟨by have := g.h; simp at this; simp [this], by have := g.le; simp; omega⟩
instance (a : Value) (l vs : List Value) (o s : Nat) [g : SubL l o s vs] : SubL (a :: l) (o + 1) s vs := ⟨by rw [← g.h]; simp, by have := g.le; simp; omega⟩
/-- A struct or an array. -/
theorem Q_ldA (i : Nat) {t b o tb sz by_ : Nat} {z : Value} {x : Operand} {cs vs : List Value} {d : TypeDesc} [u : TyU P t d] [k : TyI P t sz z by_] (hx : ρ.ev x = some (.pointer (some ⟨b, o, none⟩))) (hi : L[i]? = some (cel b cs tb)) (hd : isAggD d = true)
 [hv : SubL cs o sz vs] : QOp P E n ⟨dst, .load t x, ty, pos, after, g⟩ ρ L (.agg vs.toArray) := fun c w ha hs => by
 obtain ⟨r, hr, hsz, _⟩ := k.get
 have h1 : (loadCells ⟨b, o, none⟩ sz).run P w = .ok vs.toArray w := by
  rw [← hv.h]
  refine run_cells _ _ (fun j u hu => ?_) _ (by have := hv.le; simp; omega)
  rw [addr_add]
  refine hs.cel_cell hi _ _ ?_
  rw [List.getElem?_take] at hu
  split at hu
  ·simpa using hu
  ·cases hu
 simp only [execOp, ha.ev hx]
 simp [Instr.loadAt, Instr.sureAddr, loadVar, run_isAgg u.h, hd, sizeOf, typeInfo, hr, hsz, h1]
/-- A store into a block of cells. -/
theorem O_st (i : Nat) {K : Value → List HProp → Prop} {t b o tb sz by_ : Nat} {z v : Value} {x y : Operand} {cs vs cs' : List Value} [k : TyI P t sz z by_] (hx : ρ.ev x = some (.pointer (some ⟨b, o, none⟩))) (hy : ρ.ev y = some v)
 (hi : L[i]? = some (cel b cs tb)) (hvs : v.cells.toList = vs) (hsz : vs.length = sz) (h1 : ∀ c ∈ vs, c.oneCell' = true) (hl : o + sz ≤ cs.length) (hcs : cs.take o ++ vs ++ cs.drop (o + sz) = cs')
 (hk : K undef (L.set i (cel b cs' tb))) : JOp P E n ⟨none, .store t x y, ty, pos, after, g⟩ K ρ L := fun c w ha hs next Q hn => by
 obtain ⟨r, hr, hsz', _⟩ := k.get
 subst hcs
 obtain ⟨fr, hb, hf, hE⟩ := hs.cel_at hi
 obtain ⟨w', hw, ht⟩ := run_storeCells (P := P) b tb fr vs o 0 cs w hb hf (by omega) h1
 have h2 : v.cells.size = sz := by rw [← hsz, ← hvs]; simp
 unfold Oper.wp
 simp only [execOp, ha.ev hx, ha.ev hy]
 have hst : (Instr.storeAt t (.pointer (some ⟨b, o, none⟩)) v).run P w = .ok () w' := by
  simp only [Instr.storeAt, Instr.sureAddr, storeVar]
  simp only [Sem.run_bind, Sem.run_pure, Result.andThen_ok, sizeOf, typeInfo, run_program, hr, Sem.run_ite]
  simp [hsz', h2]
  rw [hvs]
  simpa using hw
 simp only [Sem.run_bind, hst, Result.andThen_ok, Sem.run_pure]
 refine hn undef _ w' hk ?_
 refine hs.turn_at hi (o := .cells (cs.take o ++ vs ++ cs.drop (o + sz)).toArray tb fr) (fun p ⟨fr', hp, hf'⟩ hw' => ⟨⟨_, hp⟩, ?_⟩) (by rw [← hsz]; simpa using ht)
 refine ⟨fr, by simp, ?_⟩
 have : (cs.take o ++ vs ++ cs.drop (o + sz)).length = cs.length := by simp; omega
 rw [this]; exact hf
class SetV (cs : List Value) (i : Nat) (v : Value) (cs' : outParam (List Value)) : Prop where
 h : cs.set i v = cs'
 lt : i < cs.length
instance (a v : Value) (l : List Value) : SetV (a :: l) 0 v (v :: l) := ⟨rfl, by simp⟩
instance (i : Nat) (a v : Value) (l l' : List Value) [g : SetV l i v l'] : SetV (a :: l) (i + 1) v (a :: l') := ⟨by rw [← g.h]; rfl, by have := g.lt; simp; exact this⟩
/-- A store of one cell into a block that is written out. -/
theorem O_st1 (i : Nat) {K : Value → List HProp → Prop} {t b o tb by_ : Nat} {z v : Value} {x y : Operand} {cs cs' : List Value} [k : TyI P t 1 z by_] (hx : ρ.ev x = some (.pointer (some ⟨b, o, none⟩))) (hy : ρ.ev y = some v)
 (hi : L[i]? = some (cel b cs tb)) (hvs : v.cells.toList = [v]) (h1 : v.oneCell' = true) [hcs : SetV cs o v cs']
 (hk : K undef (L.set i (cel b cs' tb))) : JOp P E n ⟨none, .store t x y, ty, pos, after, g⟩ K ρ L :=
 O_st i hx hy hi hvs rfl (by intro c hc; simp at hc; subst hc; exact h1) (by have := hcs.lt; simp only [List.length_cons, List.length_nil]; omega) (by rw [← hcs.h, List.set_eq_take_append_cons_drop, if_pos hcs.lt]; simp) hk
/-- A value's cells, written out. (see O_stW) -/
class CellsL (v : Value) (cs : outParam (List Value)) : Prop where
 h : v.cells.toList = cs
instance (l : List Value) : CellsL (.agg l.toArray) l := ⟨rfl⟩
instance (k : IntKind) (n : Int) : CellsL (.int k n) [.int k n] := ⟨rfl⟩
instance (b : Bool) : CellsL (.bool b) [.bool b] := ⟨rfl⟩
instance (s : ByteArray) : CellsL (.string s) [.string s] := ⟨rfl⟩
instance (a : Option Addr) : CellsL (.pointer a) [.pointer a] := ⟨rfl⟩
instance (a : Option Addr) (n c : Nat) : CellsL (.slice a n c) [.slice a n c] := ⟨rfl⟩
instance (r : Option Nat) : CellsL (.map r) [.map r] := ⟨rfl⟩
instance (f : Fn) (a b : Array Value) : CellsL (.func f a b) [.func f a b] := ⟨rfl⟩
instance (t : TypeId) (v : Value) : CellsL (.iface t v) [.iface t v] := ⟨rfl⟩
instance : CellsL .nilFunc [.nilFunc] := ⟨rfl⟩
instance : CellsL .nilIface [.nilIface] := ⟨rfl⟩
class LenL (vs : List Value) (n : Nat) : Prop where
 h : vs.length = n
instance : LenL [] 0 := ⟨rfl⟩
instance (v : Value) (vs : List Value) (n : Nat) [g : LenL vs n] : LenL (v :: vs) (n + 1) := ⟨by simp [g.h]⟩
/-- A store over the whole of a block. -/
theorem O_stW (i : Nat) {K : Value → List HProp → Prop} {t b tb sz by_ : Nat} {z v : Value} {x y : Operand} {cs vs : List Value} [k : TyI P t sz z by_] (hx : ρ.ev x = some (.pointer (some ⟨b, 0, none⟩))) (hy : ρ.ev y = some v) [hv : CellsL v vs]
 (hi : L[i]? = some (cel b cs tb)) [hsz : LenL vs sz] [hl : LenL cs sz] (h1 : vs.all Value.oneCell' = true)
 (hk : K undef (L.set i (cel b vs tb))) : JOp P E n ⟨none, .store t x y, ty, pos, after, g⟩ K ρ L :=
 O_st i hx hy hi hv.h hsz.h (fun c hc => List.all_eq_true.1 h1 c hc) (by have := hl.h; omega) (by have := hl.h; rw [List.drop_of_length_le (by omega)]; simp) hk
/-- A new variable, with a value. -/
theorem O_box {K : Value → List HProp → Prop} {t : Nat} {v : Value} {cs : List Value} {x : Operand} (hx : ρ.ev x = some v) [hc : CellsL v cs] (hk : ∀ b, K (.pointer (some ⟨b, 0, none⟩)) (cel b cs t :: L)) : JOp P E n ⟨dst, .box t x, ty, pos, after, g⟩ K ρ L := fun c w ha hs next Q hn => by
 unfold Oper.wp
 simp only [execOp, ha.ev hx, Instr.box, newVar, newRow]
 simp only [Sem.run_bind, run_newObj, Result.andThen_ok, Sem.run_pure, World.alloc_eq]
 refine hn _ _ _ (hk w.heap.size) ?_
 refine (hs.newed (newed_alloc w _)).weaken fun p hp => ⟨(0, 0), ?_, by simp⟩
 rw [← hc.h]
 simpa [blk] using hp
theorem O_alloc {K : Value → List HProp → Prop} {t sz by_ : Nat} {z : Value} {cs : List Value} [k : TyI P t sz z by_] [hc : CellsL z cs] (hk : ∀ b, K (.pointer (some ⟨b, 0, none⟩)) (cel b cs t :: L)) : JOp P E n ⟨dst, .alloc t, ty, pos, after, g⟩ K ρ L := fun c w ha hs next Q hn => by
 obtain ⟨r, hr, _, hz, _⟩ := k.get
 unfold Oper.wp
 simp only [execOp, Instr.alloc, newVar, newRow, zeroValue, typeInfo]
 simp only [Sem.run_bind, run_program, Result.andThen_ok, hr, hz, Sem.run_pure, run_newObj, World.alloc_eq]
 refine hn _ _ _ (hk w.heap.size) ?_
 refine (hs.newed (newed_alloc w _)).weaken fun p hp => ⟨(0, 0), ?_, by simp⟩
 rw [← hc.h]
 simpa [blk] using hp
end
end Go.SL
