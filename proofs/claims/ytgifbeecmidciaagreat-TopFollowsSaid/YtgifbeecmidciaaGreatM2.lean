/- Part 2 of the texts below the row: Sl4, Sl5, Sl6. -/
import Derived.Laws.AppendOwn
import Derived.Laws.MakeOwn
import Derived.Lib.AppendStr
import Derived.Laws.IdiomStrings
import Derived.Test.YtgifbeecmidciaaGreatM1
/- Memory: blocks of cells (structs behind pointers), slices that are owned or read, and the rules of the operations on them. -/
set_option autoImplicit false
namespace Go.SL
/-- A block of cells: its frozen part, if any, lies behind its cells. -/
def cel (b : Nat) (cs : List Value) (t : Nat) : HProp := fun _ h => ∃ fr : Nat × Nat, h b = some (.cells cs.toArray t fr) ∧ (fr.2 ≤ fr.1 ∨ cs.length ≤ fr.1)
section
variable {E w : World} {L : List HProp}
theorem Sat.map_at (h : Sat E w L) {i : Nat} {c d : HProp} (hi : L[i]? = some c) (hc : ∀ g, c E g → d E g) : Sat E w (L.set i d) := by
 obtain ⟨fr, f1, f2, f3⟩ := h.own
 have hlt : i < L.length := (List.getElem?_eq_some_iff.1 hi).1
 refine ⟨h.os, h.tape, h.output, h.size, h.old, fr, ?_, by simpa using f2, by simpa using f3⟩
 intro j x hx
 by_cases e : j = i
 ·subst e
  rw [List.getElem?_set_self hlt] at hx
  obtain rfl := Option.some.inj hx
  exact hc _ (f1 j c hi)
 ·rw [List.getElem?_set_ne (Ne.symm e)] at hx
  exact f1 j x hx
theorem Sat.swap {c : HProp} (h : Sat E w (c :: L)) (i : Nat) : Sat E w (L.set i c) := by
 obtain ⟨fr, f1, f2, f3⟩ := h.own
 refine ⟨h.os, h.tape, h.output, h.size, h.old, fun j => if j = i then fr 0 else fr (j + 1), ?_, ?_, ?_⟩
 ·intro j x hx
  by_cases e : j = i
  ·subst e
   have hlt : j < L.length := by have := (List.getElem?_eq_some_iff.1 hx).1; simpa using this
   rw [List.getElem?_set_self hlt] at hx
   obtain rfl := Option.some.inj hx
   simp only [if_true]; exact f1 0 _ rfl
  ·rw [List.getElem?_set_ne (Ne.symm e)] at hx
   simp only [e, if_false]; exact f1 (j + 1) x (by simpa using hx)
 ·intro j hj
  rw [List.length_set] at hj
  by_cases e : j = i
  ·simp only [e, if_true]; exact f2 0 (by simp)
  ·simp only [e, if_false]; exact f2 (j + 1) (by simpa using hj)
 ·intro j k hj hk hne
  rw [List.length_set] at hj hk
  by_cases e : j = i <;> by_cases e' : k = i <;> simp only [e, e', if_true, if_false]
  ·omega
  ·exact f3 0 (k + 1) (by simp) (by simpa using hk) (by omega)
  ·exact f3 (j + 1) 0 (by simpa using hj) (by simp) (by omega)
  ·exact f3 (j + 1) (k + 1) (by simpa using hj) (by simpa using hk) (by omega)
/-- What a chunk's piece says of the world. -/
theorem Sat.at (h : Sat E w L) {i : Nat} {c : HProp} (hi : L[i]? = some c) : ∃ g, c E g ∧ ∀ b o, g b = some o → E.heap.size ≤ b ∧ w.heap[b]? = some o := by
 obtain ⟨fr, f1, f2, f3⟩ := h.own
 exact ⟨fr i, f1 i c hi, f2 i (List.getElem?_eq_some_iff.1 hi).1⟩
/-- One block of the i-th chunk became another one. -/
theorem Sat.turn_at {w' : World} (h : Sat E w L) {i b : Nat} {c d : HProp} {o : Obj} (hi : L[i]? = some c) (hc : ∀ g, c E g → (∀ b o, g b = some o → w.heap[b]? = some o) → (∃ o', g b = some o') ∧ d E (fun k => if k = b then some o else g k)) (ht : Turned w w' b o) : Sat E w' (L.set i d) := by
 have hlt : i < L.length := (List.getElem?_eq_some_iff.1 hi).1
 obtain ⟨fr, f1, f2, f3⟩ := h.own
 obtain ⟨⟨o', h1⟩, hd⟩ := hc _ (f1 i c hi) (fun b o hb => (f2 i hlt b o hb).2)
 have hb := f2 i hlt b o' h1
 refine ⟨ht.os.trans h.os, ht.tape.trans h.tape, ht.output.trans h.output, Nat.le_trans h.size ht.size, fun k hk => ?_,
  fun j => if j = i then (fun k => if k = b then some o else fr i k) else fr j, ?_, ?_, ?_⟩
 ·rw [ht.other k (by omega) (Nat.lt_of_lt_of_le hk h.size)]; exact h.old k hk
 ·intro j x hx
  by_cases e : j = i
  ·subst e
   rw [List.getElem?_set_self hlt] at hx
   obtain rfl := Option.some.inj hx
   simpa using hd
  ·rw [List.getElem?_set_ne (Ne.symm e)] at hx
   simp only [e, if_false]
   exact f1 j x hx
 ·intro j hj k x hx
  rw [List.length_set] at hj
  by_cases e : j = i
  ·subst e
   simp only [if_true] at hx
   by_cases ek : k = b
   ·subst ek; simp at hx; subst hx; exact ⟨hb.1, ht.here⟩
   ·simp only [ek, if_false] at hx
    have := f2 j hj k x hx
    exact ⟨this.1, by rw [ht.other k ek (Array.getElem?_eq_some_iff.1 this.2).1]; exact this.2⟩
  ·simp only [e, if_false] at hx
   have := f2 j hj k x hx
   have hkb : k ≠ b := by
    intro ek; subst ek
    have := f3 j i hj hlt e k
    rw [hx, h1] at this; simp at this
   exact ⟨this.1, by rw [ht.other k hkb (Array.getElem?_eq_some_iff.1 this.2).1]; exact this.2⟩
 ·intro j k hj hk hne x
  rw [List.length_set] at hj hk
  have key : ∀ m, m < L.length → m ≠ i → ((if x = b then some o else fr i x) = none ∨ fr m x = none) := fun m hm hmi => by
   by_cases ex : x = b
   ·subst ex
    right
    have := f3 m i hm hlt hmi x
    rw [h1] at this; simpa using this
   ·simp only [ex, if_false]; exact f3 i m hlt hm (Ne.symm hmi) x
  by_cases e : j = i
  ·subst e
   have e2 : k ≠ j := Ne.symm hne
   simp only [if_true, e2, if_false]
   exact key k hk e2
  ·simp only [e, if_false]
   by_cases e2 : k = i
   ·subst e2
    simp only [if_true]
    exact (key j hj e).symm
   ·simp only [e2, if_false]; exact f3 j k hj hk hne x
end
/-! ### Running loads and stores over lists of cells -/
section
variable {P : Program} {w : World}
theorem addr_add (b o i : Nat) : (⟨b, o, none⟩ : Addr).add i = ⟨b, o + i, none⟩ := by unfold Addr.add; split <;> simp_all
theorem addr_add_add (a : Addr) (i j : Nat) : (a.add i).add j = a.add (i + j) := by
 unfold Addr.add
 by_cases h1 : i = 0
 ·subst h1; simp
 ·by_cases h2 : j = 0
  ·subst h2; simp [h1]
  ·simp [h1, h2, Nat.add_assoc]
theorem run_cells (a : Addr) (vs : List Value) (h : ∀ (j : Nat) u, vs[j]? = some u → w.cell? (a.add j) = some u) (n : Nat) (hn : n = vs.length) : (loadCells a n).run P w = .ok vs.toArray w := by
 subst hn
 have key : ∀ (k i : Nat) (acc : Array Value), (∀ j, j < k → ∃ u, vs[i + j]? = some u) → (loadCellsFrom a i k acc).run P w = .ok (acc ++ ((vs.drop i).take k).toArray) w := by
  intro k
  induction k with
  | zero => intro i acc _; simp [loadCellsFrom]
  | succ k ih =>
   intro i acc hk
   obtain ⟨u, hu⟩ := hk 0 (by omega)
   have hu : vs[i]? = some u := by simpa using hu
   have hc := h i u hu
   simp only [loadCellsFrom, Sem.run_bind, run_load, hc, Result.andThen_ok]
   rw [ih (i + 1) (acc.push u) (fun j hj => by obtain ⟨x, hx⟩ := hk (j + 1) (by omega); exact ⟨x, by rw [← hx]; congr 1; omega⟩)]
   congr 1
   have hlt : i < vs.length := (List.getElem?_eq_some_iff.1 hu).1
   have hd : vs.drop i = u :: vs.drop (i + 1) := by
    rw [List.drop_eq_getElem_cons hlt]
    congr 1
    have := List.getElem?_eq_getElem hlt
    rw [hu] at this
    exact (Option.some.inj this).symm
   rw [hd, List.take_succ_cons]
   apply Array.ext'
   simp
 unfold loadCells
 rw [key vs.length 0 #[] (fun j hj => ⟨vs[j], by simp [hj]⟩)]
 simp
theorem take_set_succ (cs : List Value) (k : Nat) (v : Value) (h : k < cs.length) : (cs.set k v).take (k + 1) = cs.take k ++ [v] := by
 apply List.ext_getElem?
 intro j
 simp only [List.getElem?_take, List.getElem?_set, List.getElem?_append, List.length_take]
 rcases Nat.lt_trichotomy j k with hj | hj | hj
 ·simp [show j < k + 1 by omega, show k ≠ j by omega, show j < cs.length by omega, hj]
  omega
 ·subst hj; simp [h, Nat.min_eq_left (Nat.le_of_lt h)]
 ·have : ¬ j < k + 1 := by omega
  have h2 : ¬ j < min k cs.length := by omega
  simp only [this, if_false, h2]
  rw [Nat.min_eq_left (Nat.le_of_lt h)]
  rw [List.getElem?_eq_none (by simp; omega)]
theorem drop_set_lt (cs : List Value) (k m : Nat) (v : Value) (h : k < m) : (cs.set k v).drop m = cs.drop m := by
 apply List.ext_getElem?
 intro j
 simp [List.getElem?_drop, show ¬ k = m + j by omega]
theorem run_storeCells (b t : Nat) (fr : Nat × Nat) : ∀ (vs : List Value) (o i : Nat) (cs : List Value) (w : World), w.heap[b]? = some (.cells cs.toArray t fr) → (fr.2 ≤ fr.1 ∨ cs.length ≤ fr.1) → o + i + vs.length ≤ cs.length →
 (∀ v ∈ vs, v.oneCell' = true) → ∃ w', (storeCells ⟨b, o, none⟩ vs i).run P w = .ok () w' ∧ Turned w w' b (.cells (cs.take (o + i) ++ vs ++ cs.drop (o + i + vs.length)).toArray t fr)
 | [], o, i, cs, w, hb, _, _, _ => ⟨w, rfl, rfl, rfl, rfl, Nat.le_refl _, fun _ _ _ => rfl, by simpa using hb⟩
 | v :: r, o, i, cs, w, hb, hf, hl, h1 => by
  have hlt : b < w.heap.size := (Array.getElem?_eq_some_iff.1 hb).1
  simp only [List.length_cons] at hl
  have hcell : w.cell? ⟨b, o + i, none⟩ = some cs[o + i] := by simp [World.cell?, hb, show o + i < cs.length by omega]
  have hfro : w.frozen? ⟨b, o + i, none⟩ = false := by
   simp only [World.frozen?, hb]
   rcases hf with h | h <;> simp <;> omega
  have ht : Turned w (w.setCell ⟨b, o + i, none⟩ v) b (.cells (cs.set (o + i) v).toArray t fr) := by
   refine ⟨rfl, rfl, rfl, by simp [World.setCell], fun k hk _ => ?_, ?_⟩
   ·simp only [World.setCell, Array.getElem?_modify]
    rw [if_neg (Ne.symm hk)]
   ·simp only [World.setCell, Array.getElem?_modify, if_true, hb]
    simp
  obtain ⟨w', hr, ht'⟩ := run_storeCells b t fr r o (i + 1) (cs.set (o + i) v) (w.setCell ⟨b, o + i, none⟩ v) ht.here (by rw [List.length_set]; exact hf) (by rw [List.length_set]; omega) (fun x hx => h1 x (by simp [hx]))
  refine ⟨w', ?_, ht'.os.trans ht.os, ht'.tape.trans ht.tape, ht'.output.trans ht.output, Nat.le_trans ht.size ht'.size, fun k hk hk' => ?_, ?_⟩
  ·simp only [storeCells, Sem.run_bind, addr_add]
   rw [run_store P w _ v _ (h1 v (by simp)), hcell]
   simp only [hfro, Bool.false_eq_true, if_false, Result.andThen_ok]
   exact hr
  ·rw [ht'.other k hk (Nat.lt_of_lt_of_le hk' ht.size), ht.other k hk hk']
  ·rw [ht'.here]
   congr 3
   have e1 : (cs.set (o + i) v).take (o + (i + 1)) = cs.take (o + i) ++ [v] := take_set_succ cs (o + i) v (by omega)
   have e2 : (cs.set (o + i) v).drop (o + (i + 1) + r.length) = cs.drop (o + i + (r.length + 1)) := by
    rw [show o + (i + 1) + r.length = o + i + (r.length + 1) by omega]
    exact drop_set_lt cs (o + i) _ v (by omega)
   rw [e1, e2]
   simp
theorem newed_alloc (w : World) (o : Obj) : Newed w (w.alloc o) w.heap.size o :=
 ⟨rfl, rfl, rfl, Nat.le_refl _, by simp, fun k hk => heap_alloc_old w o k hk, heap_alloc_new w o⟩
theorem newed_drew_alloc (w : World) (o : Obj) : Newed w (w.drew.alloc o) w.heap.size o :=
 ⟨rfl, rfl, rfl, Nat.le_refl _, by simp, fun k hk => heap_alloc_old w.drew o k hk, heap_alloc_new w.drew o⟩
end
def isAggD : TypeDesc → Bool
 | .struct _ => true
 | .array _ _ => true
 | _ => false
theorem run_isAgg {P : Program} {t : Nat} {d : TypeDesc} (h : P.underlying t = some d) (w : World) : (isAgg t).run P w = .ok (isAggD d) w := by
 cases d <;> simp [isAgg, run_underlying h, isAggD]
/-! ### Loads and stores through a pointer to a block of cells -/
section
variable {P : Program} {E : World} {n : Nat} {ρ : Env} {L : List HProp} {dst : Option Tmp} {ty : TypeId} {pos : String} {after : Array Edge} {g : Option (Nat × Bool)}
theorem Sat.cel_at {w : World} (h : Sat E w L) {i b t : Nat} {cs : List Value} (hi : L[i]? = some (cel b cs t)) :
 ∃ fr, w.heap[b]? = some (.cells cs.toArray t fr) ∧ (fr.2 ≤ fr.1 ∨ cs.length ≤ fr.1) ∧ E.heap.size ≤ b := by
 obtain ⟨p, ⟨fr, h1, h2⟩, h3⟩ := h.at hi
 exact ⟨fr, (h3 b _ h1).2, h2, (h3 b _ h1).1⟩
theorem Sat.cel_cell {w : World} (h : Sat E w L) {i b t : Nat} {cs : List Value} (hi : L[i]? = some (cel b cs t)) (j : Nat) (u : Value) (hu : cs[j]? = some u) : w.cell? ⟨b, j, none⟩ = some u := by
 obtain ⟨fr, h1, _⟩ := h.cel_at hi
 simp [World.cell?, h1, hu]
/-- Where a field lies. -/
class FldOff (P : Program) (s f : Nat) (off : outParam Nat) : Prop where
 h : ∀ (w : World) (a : Addr), (Instr.fieldAt s (.pointer (some a)) f).run P w = .ok (.pointer (some (a.add off))) w
theorem FldOff.of {s f : Nat} {fs : Array Field} {fd : Field} {sz by_ : Nat} {z : Value} (u : P.underlying s = some (.struct fs)) (hf : fs[f]? = some fd) (v : TyI P fd.type sz z by_) (hz : sz ≠ 0) : FldOff P s f fd.offset := ⟨fun w a => by
 obtain ⟨i, hi, hs, _⟩ := v.get
 simp [Instr.fieldAt, run_underlying u, hf, Instr.sureAddr, fieldPlace, sizeOf, typeInfo, hi, hs, hz]⟩
theorem Q_fa0 {s f b off : Nat} {x : Operand} [v : FldOff P s f off] (hx : ρ.ev x = some (.pointer (some ⟨b, 0, none⟩))) :
 QOp P E n ⟨dst, .fieldAddr s x f, ty, pos, after, g⟩ ρ L (.pointer (some ⟨b, off, none⟩)) := fun c w ha _ => by
 have h1 := v.h w ⟨b, 0, none⟩
 rw [addr_add, Nat.zero_add] at h1
 simp [execOp, ha.ev hx, h1]
theorem Q_fa {s f b o o' off : Nat} {x : Operand} [v : FldOff P s f off] (hx : ρ.ev x = some (.pointer (some ⟨b, o, none⟩))) (ho : o + off = o') :
 QOp P E n ⟨dst, .fieldAddr s x f, ty, pos, after, g⟩ ρ L (.pointer (some ⟨b, o', none⟩)) := fun c w ha _ => by
 have h1 := v.h w ⟨b, o, none⟩
 rw [addr_add, ho] at h1
 simp [execOp, ha.ev hx, h1]
/-- A cell. -/
theorem Q_ld (i : Nat) {t b o tb : Nat} {x : Operand} {cs : List Value} {d : TypeDesc} {v : Value} [u : TyU P t d] (hx : ρ.ev x = some (.pointer (some ⟨b, o, none⟩))) (hi : L[i]? = some (cel b cs tb)) (hd : isAggD d = false) (hv : cs[o]? = some v) :
 QOp P E n ⟨dst, .load t x, ty, pos, after, g⟩ ρ L v := fun c w ha hs => by
 have h1 := hs.cel_cell hi o v hv
 simp only [execOp, ha.ev hx]
 simp [Instr.loadAt, Instr.sureAddr, loadVar, run_isAgg u.h, hd, h1]
/-- A part of a list of cells, written out. -/
class SubL (cs : List Value) (o sz : Nat) (vs : outParam (List Value)) : Prop where
 h : (cs.drop o).take sz = vs
 le : o + sz ≤ cs.length
instance (l : List Value) : SubL l 0 0 [] := ⟨rfl, by simp⟩
instance (a : Value) (l vs : List Value) (s : Nat) [g : SubL l 0 s vs] : SubL (a :: l) 0 (s + 1) (a :: vs) := ⟨by have := g.h; simp at this; simp [this], by have := g.le; simp; omega⟩
instance (a : Value) (l vs : List Value) (o s : Nat) [g : SubL l o s vs] : SubL (a :: l) (o + 1) s vs := ⟨by rw [← g.h]; simp, by have := g.le; simp; omega⟩
/-- A struct or an array. -/
theorem Q_ldA (i : Nat) {t b o tb sz by_ : Nat} {z : Value} {x : Operand} {cs vs : List Value} {d : TypeDesc} [u : TyU P t d] [k : TyI P t sz z by_] (hx : ρ.ev x = some (.pointer (some ⟨b, o, none⟩))) (hi : L[i]? = some (cel b cs tb)) (hd : isAggD d = true)
 [hv : SubL cs o sz vs] : QOp P E n ⟨dst, .load t x, ty, pos, after, g⟩ ρ L (.agg vs.toArray) := fun c w ha hs => by
 obtain ⟨r, hr, hsz, _⟩ := k.get
 have h1 : (loadCells ⟨b, o, none⟩ sz).run P w = .ok vs.toArray w := by
  rw [← hv.h]
  refine run_cells _ _ (fun j u hu => ?_) _ (by have := hv.le; simp; omega)
  rw [addr_add]
  refine hs.cel_cell hi _ _ ?_
  rw [List.getElem?_take] at hu
  split at hu
  ·simpa using hu
  ·cases hu
 simp only [execOp, ha.ev hx]
 simp [Instr.loadAt, Instr.sureAddr, loadVar, run_isAgg u.h, hd, sizeOf, typeInfo, hr, hsz, h1]
/-- A store into a block of cells. -/
theorem O_st (i : Nat) {K : Value → List HProp → Prop} {t b o tb sz by_ : Nat} {z v : Value} {x y : Operand} {cs vs cs' : List Value} [k : TyI P t sz z by_] (hx : ρ.ev x = some (.pointer (some ⟨b, o, none⟩))) (hy : ρ.ev y = some v)
 (hi : L[i]? = some (cel b cs tb)) (hvs : v.cells.toList = vs) (hsz : vs.length = sz) (h1 : ∀ c ∈ vs, c.oneCell' = true) (hl : o + sz ≤ cs.length) (hcs : cs.take o ++ vs ++ cs.drop (o + sz) = cs')
 (hk : K undef (L.set i (cel b cs' tb))) : JOp P E n ⟨none, .store t x y, ty, pos, after, g⟩ K ρ L := fun c w ha hs next Q hn => by
 obtain ⟨r, hr, hsz', _⟩ := k.get
 subst hcs
 obtain ⟨fr, hb, hf, hE⟩ := hs.cel_at hi
 obtain ⟨w', hw, ht⟩ := run_storeCells (P := P) b tb fr vs o 0 cs w hb hf (by omega) h1
 have h2 : v.cells.size = sz := by rw [← hsz, ← hvs]; simp
 unfold Oper.wp
 simp only [execOp, ha.ev hx, ha.ev hy]
 have hst : (Instr.storeAt t (.pointer (some ⟨b, o, none⟩)) v).run P w = .ok () w' := by
  simp only [Instr.storeAt, Instr.sureAddr, storeVar]
  simp only [Sem.run_bind, Sem.run_pure, Result.andThen_ok, sizeOf, typeInfo, run_program, hr, Sem.run_ite]
  simp [hsz', h2]
  rw [hvs]
  simpa using hw
 simp only [Sem.run_bind, hst, Result.andThen_ok, Sem.run_pure]
 refine hn undef _ w' hk ?_
 refine hs.turn_at hi (o := .cells (cs.take o ++ vs ++ cs.drop (o + sz)).toArray tb fr) (fun p ⟨fr', hp, hf'⟩ hw' => ⟨⟨_, hp⟩, ?_⟩) (by rw [← hsz]; simpa using ht)
 refine ⟨fr, by simp, ?_⟩
 have : (cs.take o ++ vs ++ cs.drop (o + sz)).length = cs.length := by simp; omega
 rw [this]; exact hf
class SetV (cs : List Value) (i : Nat) (v : Value) (cs' : outParam (List Value)) : Prop where
 h : cs.set i v = cs'
 lt : i < cs.length
instance (a v : Value) (l : List Value) : SetV (a :: l) 0 v (v :: l) := ⟨rfl, by simp⟩
instance (i : Nat) (a v : Value) (l l' : List Value) [g : SetV l i v l'] : SetV (a :: l) (i + 1) v (a :: l') := ⟨by rw [← g.h]; rfl, by have := g.lt; simp; exact this⟩
/-- A store of one cell into a block that is written out. -/
theorem O_st1 (i : Nat) {K : Value → List HProp → Prop} {t b o tb by_ : Nat} {z v : Value} {x y : Operand} {cs cs' : List Value} [k : TyI P t 1 z by_] (hx : ρ.ev x = some (.pointer (some ⟨b, o, none⟩))) (hy : ρ.ev y = some v)
 (hi : L[i]? = some (cel b cs tb)) (hvs : v.cells.toList = [v]) (h1 : v.oneCell' = true) [hcs : SetV cs o v cs']
 (hk : K undef (L.set i (cel b cs' tb))) : JOp P E n ⟨none, .store t x y, ty, pos, after, g⟩ K ρ L :=
 O_st i hx hy hi hvs rfl (by intro c hc; simp at hc; subst hc; exact h1) (by have := hcs.lt; simp only [List.length_cons, List.length_nil]; omega) (by rw [← hcs.h, List.set_eq_take_append_cons_drop, if_pos hcs.lt]; simp) hk
/-- A value's cells, written out. (see O_stW) -/
class CellsL (v : Value) (cs : outParam (List Value)) : Prop where
 h : v.cells.toList = cs
instance (l : List Value) : CellsL (.agg l.toArray) l := ⟨rfl⟩
instance (k : IntKind) (n : Int) : CellsL (.int k n) [.int k n] := ⟨rfl⟩
instance (b : Bool) : CellsL (.bool b) [.bool b] := ⟨rfl⟩
instance (s : ByteArray) : CellsL (.string s) [.string s] := ⟨rfl⟩
instance (a : Option Addr) : CellsL (.pointer a) [.pointer a] := ⟨rfl⟩
instance (a : Option Addr) (n c : Nat) : CellsL (.slice a n c) [.slice a n c] := ⟨rfl⟩
instance (r : Option Nat) : CellsL (.map r) [.map r] := ⟨rfl⟩
instance (f : Fn) (a b : Array Value) : CellsL (.func f a b) [.func f a b] := ⟨rfl⟩
instance (t : TypeId) (v : Value) : CellsL (.iface t v) [.iface t v] := ⟨rfl⟩
instance : CellsL .nilFunc [.nilFunc] := ⟨rfl⟩
instance : CellsL .nilIface [.nilIface] := ⟨rfl⟩
class LenL (vs : List Value) (n : Nat) : Prop where
 h : vs.length = n
instance : LenL [] 0 := ⟨rfl⟩
instance (v : Value) (vs : List Value) (n : Nat) [g : LenL vs n] : LenL (v :: vs) (n + 1) := ⟨by simp [g.h]⟩
/-- A store over the whole of a block. -/
theorem O_stW (i : Nat) {K : Value → List HProp → Prop} {t b tb sz by_ : Nat} {z v : Value} {x y : Operand} {cs vs : List Value} [k : TyI P t sz z by_] (hx : ρ.ev x = some (.pointer (some ⟨b, 0, none⟩))) (hy : ρ.ev y = some v) [hv : CellsL v vs]
 (hi : L[i]? = some (cel b cs tb)) [hsz : LenL vs sz] [hl : LenL cs sz] (h1 : vs.all Value.oneCell' = true)
 (hk : K undef (L.set i (cel b vs tb))) : JOp P E n ⟨none, .store t x y, ty, pos, after, g⟩ K ρ L :=
 O_st i hx hy hi hv.h hsz.h (fun c hc => List.all_eq_true.1 h1 c hc) (by have := hl.h; omega) (by have := hl.h; rw [List.drop_of_length_le (by omega)]; simp) hk
/-- A new variable, with a value. -/
theorem O_box {K : Value → List HProp → Prop} {t : Nat} {v : Value} {cs : List Value} {x : Operand} (hx : ρ.ev x = some v) [hc : CellsL v cs] (hk : ∀ b, K (.pointer (some ⟨b, 0, none⟩)) (cel b cs t :: L)) : JOp P E n ⟨dst, .box t x, ty, pos, after, g⟩ K ρ L := fun c w ha hs next Q hn => by
 unfold Oper.wp
 simp only [execOp, ha.ev hx, Instr.box, newVar, newRow]
 simp only [Sem.run_bind, run_newObj, Result.andThen_ok, Sem.run_pure, World.alloc_eq]
 refine hn _ _ _ (hk w.heap.size) ?_
 refine (hs.newed (newed_alloc w _)).weaken fun p hp => ⟨(0, 0), ?_, by simp⟩
 rw [← hc.h]
 simpa [blk] using hp
theorem O_alloc {K : Value → List HProp → Prop} {t sz by_ : Nat} {z : Value} {cs : List Value} [k : TyI P t sz z by_] [hc : CellsL z cs] (hk : ∀ b, K (.pointer (some ⟨b, 0, none⟩)) (cel b cs t :: L)) : JOp P E n ⟨dst, .alloc t, ty, pos, after, g⟩ K ρ L := fun c w ha hs next Q hn => by
 obtain ⟨r, hr, _, hz, _⟩ := k.get
 unfold Oper.wp
 simp only [execOp, Instr.alloc, newVar, newRow, zeroValue, typeInfo]
 simp only [Sem.run_bind, run_program, Result.andThen_ok, hr, hz, Sem.run_pure, run_newObj, World.alloc_eq]
 refine hn _ _ _ (hk w.heap.size) ?_
 refine (hs.newed (newed_alloc w _)).weaken fun p hp => ⟨(0, 0), ?_, by simp⟩
 rw [← hc.h]
 simpa [blk] using hp
end
end Go.SL
/- Slices: owned, or read; the rules of the operations on them. -/
set_option autoImplicit false
namespace Go.SL
/-- How values of a Lean type lie in cells. -/
structure Ty (α : Type) where
 e : Nat
 sz : Nat
 enc : α → List Value
 len : ∀ a, (enc a).length = sz
 pos : 0 < sz
 one : ∀ a, ∀ v ∈ enc a, v.oneCell' = true
structure SV where
 a : Option Addr
 n : Nat
 c : Nat
abbrev SV.v (S : SV) : Value := .slice S.a S.n S.c
abbrev SV.nil : SV := ⟨none, 0, 0⟩
def SV.sub (S : SV) (sz lo hi : Nat) : SV := ⟨if S.c = lo then S.a else S.a.map (·.add (lo * sz)), hi - lo, S.c - lo⟩
def pAt (S : SV) (c : Nat) : Value := .pointer (some ((S.a.getD ⟨0, 0, none⟩).add c))
section
variable {α : Type} (τ : Ty α)
def Ty.flat (l : List α) : List Value := l.flatMap τ.enc
theorem Ty.flat_cons (a : α) (l : List α) : τ.flat (a :: l) = τ.enc a ++ τ.flat l := by simp [Ty.flat]
theorem Ty.flat_append (l m : List α) : τ.flat (l ++ m) = τ.flat l ++ τ.flat m := by simp [Ty.flat]
theorem Ty.flat_length (l : List α) : (τ.flat l).length = l.length * τ.sz := by
 induction l with
 | nil => simp [Ty.flat]
 | cons a l ih => rw [Ty.flat_cons, List.length_append, ih, τ.len, List.length_cons, Nat.add_mul]; omega
theorem Ty.flat_one (l : List α) : ∀ v ∈ τ.flat l, v.oneCell' = true := by
 intro v hv
 simp only [Ty.flat, List.mem_flatMap] at hv
 obtain ⟨a, _, ha⟩ := hv
 exact τ.one a v ha
theorem Ty.flat_take (l : List α) (k : Nat) : (τ.flat l).take (k * τ.sz) = τ.flat (l.take k) := by
 induction l generalizing k with
 | nil => simp [Ty.flat]
 | cons a l ih =>
  cases k with
  | zero => simp [Ty.flat]
  | succ k => rw [List.take_succ_cons, Ty.flat_cons, Ty.flat_cons, ← ih, Nat.add_mul, List.take_append, τ.len, List.take_of_length_le (by rw [τ.len]; omega)]; congr 2; omega
theorem Ty.flat_drop (l : List α) (k : Nat) : (τ.flat l).drop (k * τ.sz) = τ.flat (l.drop k) := by
 induction l generalizing k with
 | nil => simp [Ty.flat]
 | cons a l ih =>
  cases k with
  | zero => simp
  | succ k => rw [List.drop_succ_cons, Ty.flat_cons, ← ih, Nat.add_mul, List.drop_append, τ.len, List.drop_of_length_le (by rw [τ.len]; omega)]; simp
theorem Ty.flat_get (l : List α) (k f : Nat) (hk : k < l.length) (hf : f < τ.sz) : (τ.flat l)[k * τ.sz + f]? = (τ.enc l[k])[f]? := by
 have h1 : (τ.flat l)[k * τ.sz + f]? = ((τ.flat l).drop (k * τ.sz))[f]? := by rw [List.getElem?_drop]
 rw [h1, τ.flat_drop, List.drop_eq_getElem_cons hk, τ.flat_cons, List.getElem?_append_left (by rw [τ.len]; exact hf)]
theorem Ty.flat_at (l : List α) (k : Nat) (hk : k < l.length) : ((τ.flat l).drop (k * τ.sz)).take τ.sz = τ.enc l[k] := by
 rw [τ.flat_drop, List.drop_eq_getElem_cons hk, τ.flat_cons, List.take_append, τ.len, List.take_of_length_le (by rw [τ.len]; omega)]; simp
theorem Ty.flat_set (l : List α) (k : Nat) (a : α) (hk : k < l.length) : τ.flat (l.set k a) = (τ.flat l).take (k * τ.sz) ++ τ.enc a ++ (τ.flat l).drop ((k + 1) * τ.sz) := by
 rw [τ.flat_take, τ.flat_drop, List.set_eq_take_append_cons_drop, if_pos hk, τ.flat_append, τ.flat_cons]; simp
theorem Ty.flat_replicate (m : Nat) (a : α) : τ.flat (List.replicate m a) = (List.replicate m (τ.enc a)).flatten := by
 induction m with
 | zero => simp [Ty.flat]
 | succ m ih => rw [List.replicate_succ, τ.flat_cons, ih, List.replicate_succ, List.flatten_cons]
/-- A slice S that holds l: owned (full), or a part of what was there at the start. -/
def slc (full : Bool) (S : SV) (l : List α) : HProp := fun E h => S.n = l.length ∧ S.n ≤ S.c ∧ ((S.a = none ∧ S.c = 0) ∨
 (∃ a, S.a = some a ∧ full = false ∧ ∀ (j : Nat) u, (τ.flat l)[j]? = some u → a.block < E.heap.size ∧ E.cell? (a.add j) = some u) ∨
 ∃ g o, S.a = some ⟨g, o, none⟩ ∧ full = true ∧ ∃ (cs : List Value) (fr : Nat × Nat), h g = some (.cells cs.toArray τ.e fr) ∧ (fr.2 ≤ fr.1 ∨ cs.length ≤ fr.1) ∧ o + S.c * τ.sz ≤ cs.length ∧ (cs.drop o).take (S.n * τ.sz) = τ.flat l ∧ S.c ≤ 9223372036854775807)
/-- What S reads as in a world. -/
def Rd (w : World) (S : SV) (m : List α) : Prop := S.n = m.length ∧ S.n ≤ S.c ∧ ((S.a = none ∧ S.c = 0) ∨ ∃ a, S.a = some a ∧ ∀ (j : Nat) u, (τ.flat m)[j]? = some u → w.cell? (a.add j) = some u)
end
section
variable {α : Type} {τ : Ty α} {E w : World} {L : List HProp}
theorem Sat.old_cell (h : Sat E w L) {a : Addr} (ha : a.block < E.heap.size) : w.cell? a = E.cell? a := by simp [World.cell?, h.old _ ha]
theorem Sat.rd (h : Sat E w L) (i : Nat) {full : Bool} {S : SV} {l : List α} (hi : L[i]? = some (slc τ full S l)) : Rd τ w S l := by
 obtain ⟨p, ⟨h1, h2, h3⟩, hw⟩ := h.at hi
 refine ⟨h1, h2, ?_⟩
 rcases h3 with h3 | ⟨a, ha, _, h4⟩ | ⟨g, o, ha, _, h4⟩
 ·exact .inl h3
 ·refine .inr ⟨_, ha, fun j u hu => ?_⟩
  obtain ⟨hg, hc⟩ := h4 j u hu
  have hb : (a.add j).block = a.block := by unfold Addr.add; split <;> rfl
  rw [h.old_cell (by rw [hb]; exact hg)]
  exact hc
 ·refine .inr ⟨_, ha, fun j u hu => ?_⟩
  rw [addr_add]
  obtain ⟨cs, fr, hb, _, hl, hcs, _⟩ := h4
  have hb := (hw g _ hb).2
  rw [← hcs, List.getElem?_take] at hu
  split at hu
  ·rw [List.getElem?_drop] at hu
   simp [World.cell?, hb, hu]
  ·cases hu
theorem Rd.sub {S : SV} {l : List α} (h : Rd τ w S l) (lo hi : Nat) (h1 : lo ≤ hi) (h2 : hi ≤ l.length) : Rd τ w (S.sub τ.sz lo hi) ((l.take hi).drop lo) := by
 obtain ⟨hn, hc, h⟩ := h
 refine ⟨by simp [SV.sub]; omega, by simp [SV.sub]; omega, ?_⟩
 rcases h with ⟨ha, h0⟩ | ⟨a, ha, h⟩
 ·left; simp [SV.sub, ha, h0]
 ·right
  have key : ∀ (j : Nat) u, (τ.flat ((l.take hi).drop lo))[j]? = some u → w.cell? ((a.add (lo * τ.sz)).add j) = some u := fun j u hu => by
   rw [addr_add_add]
   refine h _ u ?_
   rw [← τ.flat_drop, List.getElem?_drop, ← τ.flat_take, List.getElem?_take] at hu
   split at hu
   ·exact hu
   ·cases hu
  by_cases e : S.c = lo
  ·refine ⟨a, by simp [SV.sub, e, ha], fun j u hu => ?_⟩
   have : (l.take hi).drop lo = [] := by
    apply List.eq_nil_of_length_eq_zero; simp; omega
   rw [this] at hu
   simp [Ty.flat] at hu
  ·exact ⟨a.add (lo * τ.sz), by simp [SV.sub, e, ha], key⟩
theorem Rd.cells {S : SV} {l : List α} (h : Rd τ w S l) : τ.flat l = [] ∨ ∃ a, S.a = some a ∧ ∀ (j : Nat) u, (τ.flat l)[j]? = some u → w.cell? (a.add j) = some u := by
 rcases h.2.2 with ⟨ha, h0⟩ | h'
 ·left
  have : l = [] := List.eq_nil_of_length_eq_zero (by have := h.1; have := h.2.1; omega)
  rw [this]; rfl
 ·exact .inr h'
/-- A part of an owned slice. -/
theorem own_sub {full : Bool} {S : SV} {l : List α} {g : Frag} (h : slc τ full S l E g) (lo hi : Nat) (h1 : lo ≤ hi) (h2 : hi ≤ l.length) : slc τ full (S.sub τ.sz lo hi) ((l.take hi).drop lo) E g := by
 obtain ⟨hn, hc, h⟩ := h
 refine ⟨by simp [SV.sub]; omega, by simp [SV.sub]; omega, ?_⟩
 have hflat : τ.flat ((l.take hi).drop lo) = ((τ.flat l).take (hi * τ.sz)).drop (lo * τ.sz) := by rw [← τ.flat_drop, ← τ.flat_take]
 rcases h with ⟨ha, h0⟩ | ⟨a, ha, hf, h⟩ | ⟨b, o, ha, hf, h⟩
 ·left; simp [SV.sub, ha, h0]
 ·refine .inr (.inl ?_)
  by_cases e : S.c = lo
  ·refine ⟨a, by simp [SV.sub, e, ha], hf, fun j u hu => ?_⟩
   have hnil : (l.take hi).drop lo = [] := List.eq_nil_of_length_eq_zero (by simp; omega)
   rw [hnil] at hu
   simp [Ty.flat] at hu
  ·refine ⟨a.add (lo * τ.sz), by simp [SV.sub, e, ha], hf, fun j u hu => ?_⟩
   rw [hflat, List.getElem?_drop, List.getElem?_take] at hu
   split at hu
   ·have := h _ u hu
    have hb : (a.add (lo * τ.sz)).block = a.block := by unfold Addr.add; split <;> rfl
    rw [addr_add_add, hb]
    exact this
   ·cases hu
 ·refine .inr (.inr ?_)
  by_cases e : S.c = lo
  ·refine ⟨b, o, by simp [SV.sub, e, ha], hf, ?_⟩
   have hnil : (l.take hi).drop lo = [] := List.eq_nil_of_length_eq_zero (by simp; omega)
   rw [hnil]
   obtain ⟨cs, fr, hb, hf, hl, hcs, hm⟩ := h
   have e2 : hi - lo = 0 := by omega
   exact ⟨cs, fr, hb, hf, by simp [SV.sub]; have : (S.c - lo) * τ.sz ≤ S.c * τ.sz := Nat.mul_le_mul_right _ (by omega); omega, by simp [SV.sub, e2, Ty.flat], by simp [SV.sub]; omega⟩
  ·refine ⟨b, o + lo * τ.sz, by simp [SV.sub, e, ha, addr_add], hf, ?_⟩
   have hmul : lo * τ.sz ≤ hi * τ.sz := Nat.mul_le_mul_right _ h1
   have hmul2 : (hi - lo) * τ.sz = hi * τ.sz - lo * τ.sz := Nat.sub_mul _ _ _
   have hmul3 : (S.c - lo) * τ.sz = S.c * τ.sz - lo * τ.sz := Nat.sub_mul _ _ _
   have hmul4 : lo * τ.sz ≤ S.c * τ.sz := Nat.mul_le_mul_right _ (by omega)
   have hmul5 : hi * τ.sz ≤ S.n * τ.sz := Nat.mul_le_mul_right _ (by omega)
   obtain ⟨cs, fr, hb, hf, hl, hcs, hm⟩ := h
   refine ⟨cs, fr, hb, hf, by simp only [SV.sub]; omega, ?_, by simp only [SV.sub]; omega⟩
   rw [hflat, ← hcs]
   simp only [SV.sub]
   rw [List.take_take, Nat.min_eq_left hmul5, List.drop_take, List.drop_drop, hmul2]
theorem Sat.sub_at (h : Sat E w L) (i : Nat) {full : Bool} {S : SV} {l : List α} (hi' : L[i]? = some (slc τ full S l)) (lo hi : Nat) (h1 : lo ≤ hi) (h2 : hi ≤ l.length) : Sat E w (L.set i (slc τ full (S.sub τ.sz lo hi) ((l.take hi).drop lo))) :=
 h.map_at hi' fun _ hg => own_sub hg lo hi h1 h2
theorem own_nil (τ : Ty α) (full : Bool) (E : World) (g : Frag) : slc τ full SV.nil [] E g := ⟨rfl, Nat.le_refl _, .inl ⟨rfl, rfl⟩⟩
theorem Sat.lay_nil (h : Sat E w L) (τ : Ty α) (full : Bool) : Sat E w (slc τ full SV.nil [] :: L) := h.lay fun g => own_nil τ full E g
end
section
variable {α : Type} {τ : Ty α} {P : Program} {E : World} {n : Nat} {ρ : Env} {L : List HProp} {dst : Option Tmp} {ty : TypeId} {pos : String} {after : Array Edge} {g : Option (Nat × Bool)}
theorem Q_len {t e : Nat} {x : Operand} {S : SV} {m : List α} [u : TyU P t (.slice e)] (hT : ∀ w, Sat E w L → Rd τ w S m) (hx : ρ.ev x = some S.v) : QOp P E n ⟨dst, .call ⟨.builtin .len, #[x], #[t]⟩, ty, pos, after, g⟩ ρ L (.int .i64 (m.length : Int)) := fun a w ha hs => by
 have := (hT w hs).1
 exact run_builtin (args := [x]) (vs := [S.v]) a w ha (by simp [Env.evs, hx]) (fun cs => by simp [builtin, Builtin.len_, run_underlying u.h, goInt, this])
theorem Q_lenAt (i : Nat) {t e : Nat} {x : Operand} {full : Bool} {S : SV} {l : List α} [u : TyU P t (.slice e)] (hi : L[i]? = some (slc τ full S l)) (hx : ρ.ev x = some S.v) : QOp P E n ⟨dst, .call ⟨.builtin .len, #[x], #[t]⟩, ty, pos, after, g⟩ ρ L (.int .i64 (l.length : Int)) :=
 Q_len (fun _ hs => hs.rd i hi) hx
/-- Of a slice whose length is written in it. -/
theorem Q_lenV {t e : Nat} {x : Operand} {S : SV} [u : TyU P t (.slice e)] (hx : ρ.ev x = some S.v) : QOp P E n ⟨dst, .call ⟨.builtin .len, #[x], #[t]⟩, ty, pos, after, g⟩ ρ L (.int .i64 (S.n : Int)) := fun a w ha hs =>
 run_builtin (args := [x]) (vs := [S.v]) a w ha (by simp [Env.evs, hx]) (fun cs => by simp [builtin, Builtin.len_, run_underlying u.h, goInt])
/-- The address of an element. -/
theorem Q_ix {t sz by_ : Nat} {z : Value} {x y : Operand} {S : SV} {m : List α} {kk : IntKind} {i : Int} (k : Nat) [u : TyU P t (.slice τ.e)] [v : TyI P τ.e sz z by_] (hT : ∀ w, Sat E w L → Rd τ w S m) (hx : ρ.ev x = some S.v) (hy : ρ.ev y = some (.int kk i)) (hi : i = (k : Int)) (hk : k < m.length) (hsz : sz = τ.sz) :
 QOp P E n ⟨dst, .indexAddr t x y, ty, pos, after, g⟩ ρ L (pAt S (k * τ.sz)) := fun a w ha hs => by
 obtain ⟨hn, hc, h⟩ := hT w hs
 obtain ⟨r, hr, hs', _⟩ := v.get
 subst hi
 have hlt : (k : Int) < S.n := by omega
 have hlt' : ¬ S.n ≤ k := by omega
 have hlt2 : k < S.n := by omega
 have hex : ∃ b, S.a = some b := by
  rcases h with ⟨_, h0⟩ | ⟨b, hb, _⟩
  ·omega
  ·exact ⟨b, hb⟩
 obtain ⟨b, hb⟩ := hex
 simp only [execOp, ha.ev hx, ha.ev hy]
 simp only [Instr.indexAt, asIntOf]
 simp [run_underlying u.h, hlt2, sizeOf, typeInfo, hr, hs', hsz, pAt, hb]
theorem Q_ixAt (i' : Nat) {t sz by_ : Nat} {z : Value} {x y : Operand} {full : Bool} {S : SV} {l : List α} {kk : IntKind} {i : Int} (k : Nat) [u : TyU P t (.slice τ.e)] [v : TyI P τ.e sz z by_] (hl : L[i']? = some (slc τ full S l)) (hx : ρ.ev x = some S.v) (hy : ρ.ev y = some (.int kk i)) (hi : i = (k : Int)) (hk : k < l.length) (hsz : sz = τ.sz) :
 QOp P E n ⟨dst, .indexAddr t x y, ty, pos, after, g⟩ ρ L (pAt S (k * τ.sz)) := Q_ix k (fun _ hs => hs.rd i' hl) hx hy hi hk hsz
theorem Q_pfa {s f c off : Nat} {x : Operand} {S : SV} [v : FldOff P s f off] (hx : ρ.ev x = some (pAt S c)) :
 QOp P E n ⟨dst, .fieldAddr s x f, ty, pos, after, g⟩ ρ L (pAt S (c + off)) := fun a w ha _ => by
 have h1 := v.h w ((S.a.getD ⟨0, 0, none⟩).add c)
 rw [addr_add_add] at h1
 have hx' := ha.ev hx
 simp only [pAt] at hx' ⊢
 simp [execOp, hx', h1]
theorem Rd.cell_at {w : World} {S : SV} {m : List α} (h : Rd τ w S m) (c : Nat) (u : Value) (hu : (τ.flat m)[c]? = some u) : w.cell? ((S.a.getD ⟨0, 0, none⟩).add c) = some u := by
 rcases h.cells with h0 | ⟨a, ha, h⟩
 ·rw [h0] at hu; cases hu
 ·rw [ha]; exact h c u hu
/-- A cell of an element. -/
theorem Q_ldE {t c : Nat} {x : Operand} {S : SV} {m : List α} {d : TypeDesc} {v : Value} (k f : Nat) [u : TyU P t d] (hT : ∀ w, Sat E w L → Rd τ w S m) (hx : ρ.ev x = some (pAt S c)) (hc : c = k * τ.sz + f) (hd : isAggD d = false) (hk : k < m.length) (hf : f < τ.sz) (hv : (τ.enc m[k])[f]? = some v) :
 QOp P E n ⟨dst, .load t x, ty, pos, after, g⟩ ρ L v := fun a w ha hs => by
 have h1 := (hT w hs).cell_at c v (by rw [hc, τ.flat_get m k f hk hf]; exact hv)
 have hx' := ha.ev hx
 simp only [pAt] at hx'
 simp only [execOp, hx']
 simp [Instr.loadAt, Instr.sureAddr, loadVar, run_isAgg u.h, hd, h1]
theorem Q_ldEAt (i : Nat) {t c : Nat} {x : Operand} {full : Bool} {S : SV} {l : List α} {d : TypeDesc} {v : Value} (k f : Nat) [u : TyU P t d] (hl : L[i]? = some (slc τ full S l)) (hx : ρ.ev x = some (pAt S c)) (hc : c = k * τ.sz + f) (hd : isAggD d = false) (hk : k < l.length) (hf : f < τ.sz) (hv : (τ.enc l[k])[f]? = some v) :
 QOp P E n ⟨dst, .load t x, ty, pos, after, g⟩ ρ L v := Q_ldE k f (fun _ hs => hs.rd i hl) hx hc hd hk hf hv
/-- A part of an element, or the whole. -/
theorem Q_ldEA {t c : Nat} {x : Operand} {S : SV} {m : List α} {d : TypeDesc} {vs : List Value} {sz by_ : Nat} {z : Value} (k f : Nat) [u : TyU P t d] [r : TyI P t sz z by_] (hT : ∀ w, Sat E w L → Rd τ w S m) (hx : ρ.ev x = some (pAt S c)) (hc : c = k * τ.sz + f) (hd : isAggD d = true) (hk : k < m.length) (hf : f + sz ≤ τ.sz) (hv : ((τ.enc m[k]).drop f).take sz = vs) :
 QOp P E n ⟨dst, .load t x, ty, pos, after, g⟩ ρ L (.agg vs.toArray) := fun a w ha hs => by
 obtain ⟨i, hi, hsz, _⟩ := r.get
 subst hv
 have h1 : (loadCells ((S.a.getD ⟨0, 0, none⟩).add c) sz).run P w = .ok (((τ.enc m[k]).drop f).take sz).toArray w := by
  refine run_cells _ _ (fun j u hu => ?_) _ (by simp [τ.len]; omega)
  rw [addr_add_add]
  refine (hT w hs).cell_at _ u ?_
  rw [List.getElem?_take] at hu
  split at hu
  ·rw [List.getElem?_drop] at hu
   rw [hc, Nat.add_assoc, τ.flat_get m k (f + j) hk (by omega)]; exact hu
  ·cases hu
 have hx' := ha.ev hx
 simp only [pAt] at hx'
 simp only [execOp, hx']
 simp [Instr.loadAt, Instr.sureAddr, loadVar, run_isAgg u.h, hd, sizeOf, typeInfo, hi, hsz, h1]
theorem Q_ldEAAt (i : Nat) {t c : Nat} {x : Operand} {full : Bool} {S : SV} {l : List α} {d : TypeDesc} {vs : List Value} {sz by_ : Nat} {z : Value} (k f : Nat) [u : TyU P t d] [r : TyI P t sz z by_] (hl : L[i]? = some (slc τ full S l)) (hx : ρ.ev x = some (pAt S c)) (hc : c = k * τ.sz + f) (hd : isAggD d = true) (hk : k < l.length) (hf : f + sz ≤ τ.sz) (hv : ((τ.enc l[k]).drop f).take sz = vs) :
 QOp P E n ⟨dst, .load t x, ty, pos, after, g⟩ ρ L (.agg vs.toArray) := Q_ldEA k f (fun _ hs => hs.rd i hl) hx hc hd hk hf hv
/-- A store into an element. -/
theorem O_stE (i : Nat) {K : Value → List HProp → Prop} {t c sz by_ : Nat} {z v : Value} {x y : Operand} {S : SV} {l : List α} {vs : List Value} (k f : Nat) (a' : α) [r : TyI P t sz z by_] (hx : ρ.ev x = some (pAt S c)) (hy : ρ.ev y = some v)
 (hl : L[i]? = some (slc τ true S l)) (hc : c = k * τ.sz + f) (hvs : v.cells.toList = vs) (hsz : vs.length = sz) (h1 : ∀ c ∈ vs, c.oneCell' = true) (hk : k < l.length) (hf : f + sz ≤ τ.sz)
 (ha' : (τ.enc l[k]).take f ++ vs ++ (τ.enc l[k]).drop (f + sz) = τ.enc a') (hK : K undef (L.set i (slc τ true S (l.set k a')))) : JOp P E n ⟨none, .store t x y, ty, pos, after, g⟩ K ρ L := fun c' w ha hs next Q hn => by
 obtain ⟨r', hr, hsz', _⟩ := r.get
 obtain ⟨p, ⟨hn', hcap, h⟩, hw⟩ := hs.at hl
 have hx' := ha.ev hx
 rcases h with ⟨_, h0⟩ | ⟨_, _, hf0, _⟩ | ⟨b, o, hS, _, cs, fr, hb, hfr, hlen, hcs, hm⟩
 ·omega
 ·cases hf0
 have hb' := (hw b _ hb).2
 have hkl : (k + 1) * τ.sz ≤ S.n * τ.sz := Nat.mul_le_mul_right _ (by omega)
 have hnc : S.n * τ.sz ≤ S.c * τ.sz := Nat.mul_le_mul_right _ hcap
 rw [Nat.add_mul, Nat.one_mul] at hkl
 obtain ⟨w', hst, ht⟩ := run_storeCells (P := P) b τ.e fr vs (o + c) 0 cs w hb' hfr (by omega) h1
 have h2 : v.cells.size = sz := by rw [← hsz, ← hvs]; simp
 simp only [pAt, hS, Option.getD_some, addr_add] at hx'
 unfold Oper.wp
 simp only [execOp, hx', ha.ev hy]
 have hst : (Instr.storeAt t (.pointer (some ⟨b, o + c, none⟩)) v).run P w = .ok () w' := by
  simp only [Instr.storeAt, Instr.sureAddr, storeVar]
  simp only [Sem.run_bind, Sem.run_pure, Result.andThen_ok, sizeOf, typeInfo, run_program, hr, Sem.run_ite]
  simp [hsz', h2]
  rw [hvs]
  simpa using hst
 simp only [Sem.run_bind, hst, Result.andThen_ok, Sem.run_pure]
 refine hn undef _ w' hK ?_
 refine hs.turn_at hl (fun p' ⟨_, _, hp⟩ hw' => ?_) ht
 have hp' : ∃ o', p' b = some o' := by
  rcases hp with ⟨hno, _⟩ | ⟨_, _, hf0, _⟩ | ⟨b2, o2, hS2, _, cs2, fr2, hb2, _⟩
  ·rw [hno] at hS; cases hS
  ·cases hf0
  ·rw [hS2] at hS; simp only [Option.some.injEq, Addr.mk.injEq] at hS; obtain ⟨rfl, _⟩ := hS; exact ⟨_, hb2⟩
 refine ⟨hp', by simpa using hn', hcap, .inr (.inr ⟨b, o, hS, rfl, cs.take (o + c) ++ vs ++ cs.drop (o + c + vs.length), fr, by simp, ?_, ?_, ?_, hm⟩)⟩
 ·have : (cs.take (o + c) ++ vs ++ cs.drop (o + c + vs.length)).length = cs.length := by simp; omega
  rw [this]; exact hfr
 ·have : (cs.take (o + c) ++ vs ++ cs.drop (o + c + vs.length)).length = cs.length := by simp; omega
  rw [this]; exact hlen
 ·rw [τ.flat_set _ _ _ hk, ← hcs, ← ha', ← τ.flat_at l k hk, ← hcs]
  have e1 : o + c = o + (k * τ.sz + f) := by rw [hc]
  apply List.ext_getElem?
  intro j
  have hpos := τ.pos
  simp only [Nat.add_mul, Nat.one_mul] at *
  simp only [List.getElem?_take, List.getElem?_drop, List.getElem?_append, List.length_append, List.length_take, List.length_drop, e1, hsz]
  by_cases c1 : j < S.n * τ.sz
  ·simp only [c1, if_true]
   by_cases c2 : j < k * τ.sz
   ·repeat (first | rw [if_pos (by omega)] | rw [if_neg (by omega)])
   ·by_cases c3 : j < k * τ.sz + f
    ·repeat (first | rw [if_pos (by omega)] | rw [if_neg (by omega)])
     congr 1; omega
    ·by_cases c4 : j < k * τ.sz + f + sz
     ·repeat (first | rw [if_pos (by omega)] | rw [if_neg (by omega)])
      congr 1; omega
     ·by_cases c5 : j < k * τ.sz + τ.sz
      ·repeat (first | rw [if_pos (by omega)] | rw [if_neg (by omega)])
       congr 1; omega
      ·repeat (first | rw [if_pos (by omega)] | rw [if_neg (by omega)])
       congr 1; omega
  ·simp only [c1, if_false]
   symm
   repeat (first | rw [if_pos (by omega)] | rw [if_neg (by omega)])
theorem Q_slH {t sz by_ : Nat} {z : Value} {x b : Operand} {S : SV} {m : List α} {k' : IntKind} {j : Int} (hi : Nat) [u : TyU P t (.slice τ.e)] [v : TyI P τ.e sz z by_] (hT : ∀ w, Sat E w L → Rd τ w S m) (hx : ρ.ev x = some S.v) (hb : ρ.ev b = some (.int k' j))
 (hj : j = (hi : Int)) (h2 : hi ≤ m.length) (_ : sz = τ.sz) : QOp P E n ⟨dst, .slice t x none (some b) none, ty, pos, after, g⟩ ρ L (S.sub τ.sz 0 hi).v := fun c w hc hs => by
 obtain ⟨hn, hcap, _⟩ := hT w hs
 obtain ⟨r, hr, hs', _⟩ := v.get
 subst hj
 simp only [execOp, hc.ev hx, Option.map_some, hc.ev hb, Option.map_none]
 have e2 : (hi : Int) ≤ S.c := by omega
 simp [Instr.sliceAt, run_underlying u.h, Instr.slice, Instr.sliceBounds, run_sliceBound, e2, sizeOf, typeInfo, hr, SV.sub]
theorem Q_slL {t sz by_ : Nat} {z : Value} {x a : Operand} {S : SV} {m : List α} {k : IntKind} {i : Int} (lo : Nat) [u : TyU P t (.slice τ.e)] [v : TyI P τ.e sz z by_] (hT : ∀ w, Sat E w L → Rd τ w S m) (hx : ρ.ev x = some S.v) (ha : ρ.ev a = some (.int k i))
 (hi' : i = (lo : Int)) (h1 : lo ≤ m.length) (hsz : sz = τ.sz) : QOp P E n ⟨dst, .slice t x (some a) none none, ty, pos, after, g⟩ ρ L (S.sub τ.sz lo m.length).v := fun c w hc hs => by
 obtain ⟨hn, hcap, _⟩ := hT w hs
 obtain ⟨r, hr, hs', _⟩ := v.get
 subst hi'
 simp only [execOp, hc.ev hx, Option.map_some, hc.ev ha, Option.map_none]
 have e1 : (lo : Int) ≤ (m.length : Int) := by omega
 simp [Instr.sliceAt, run_underlying u.h, Instr.slice, Instr.sliceBounds, run_sliceBound, e1, sizeOf, typeInfo, hr, hs', hsz, SV.sub, hn]
/-- A string of bytes. -/
theorem Q_b2s {β : Ty UInt8} (hβ : ∀ b, β.enc b = [.int .u8 (b.toNat : Int)]) {s t : Nat} {x : Operand} {S : SV} {m : List UInt8} [u : TyU P s (.slice β.e)] [u' : TyU P t .string] [u8 : TyU P β.e (.int .u8)] (hT : ∀ w, Sat E w L → Rd β w S m) (hx : ρ.ev x = some S.v) :
 QOp P E n ⟨dst, .convert s t x, ty, pos, after, g⟩ ρ L (str m) := fun a w ha hs => by
 have hR := hT w hs
 have hflat : β.flat m = m.map (fun b : UInt8 => Value.int .u8 (b.toNat : Int)) := by
  clear hT hR hs ha hx
  induction m with
  | nil => rfl
  | cons b m ih => rw [β.flat_cons, ih, hβ]; rfl
 have e1 : (convert s t S.v).run P w = .ok (str m) w := by
  rcases hR.cells with h0 | ⟨b, hb, hc⟩
  ·have hm : m = [] := by
    have := β.flat_length m
    rw [h0] at this
    have hp := β.pos
    cases m with
    | nil => rfl
    | cons a m => simp only [List.length_nil, List.length_cons] at this; have := Nat.mul_le_mul_right β.sz (show 1 ≤ m.length + 1 by omega); omega
   subst hm
   have hn : S.n = 0 := hR.1
   rw [SV.v, run_convert_bytes_string w s t β.e S.a S.n S.c u.h u8.h u'.h, hn]
   cases hS : S.a with
   | none => simp [Conv.bytesToString]; rfl
   | some b => simp [Conv.bytesToString, loadCells, loadCellsFrom]; rfl
  ·rw [SV.v, hb, hR.1]
   exact run_convert_bytes_back w s t β.e b S.c m u.h u8.h u'.h fun j hj => hc j _ (by rw [hflat]; simp [hj])
 simp only [execOp, ha.ev hx, Sem.run_bind, e1, Result.andThen_ok, Sem.run_pure]
end
end Go.SL
/- Operations that make or write slices; calls and their specifications. -/
set_option autoImplicit false
namespace Go.SL
section
variable {α : Type} {τ : Ty α} {P : Program} {E : World} {n : Nat} {ρ : Env} {L : List HProp} {dst : Option Tmp} {ty : TypeId} {pos : String} {after : Array Edge} {g : Option (Nat × Bool)}
/-- A new block as an owned slice. -/
theorem Sat.new_row {w w' : World} (h : Sat E w L) {b : Nat} {cs : List Value} {fr : Nat × Nat} {l : List α} {c : Nat} (hn : Newed w w' b (.cells cs.toArray τ.e fr)) (hf : fr.2 ≤ fr.1 ∨ cs.length ≤ fr.1) (hc : l.length ≤ c) (hl : c * τ.sz ≤ cs.length)
 (hcs : cs.take (l.length * τ.sz) = τ.flat l) (hm : c ≤ 9223372036854775807) : Sat E w' (slc τ true ⟨some ⟨b, 0, none⟩, l.length, c⟩ l :: L) :=
 (h.newed hn).weaken fun p hp => ⟨rfl, hc, .inr (.inr ⟨b, 0, rfl, rfl, cs, fr, hp, hf, by simpa using hl, by simpa using hcs, hm⟩)⟩
theorem splice_window (cs : List Value) (o k : Nat) (vs : List Value) (h : o + k + vs.length ≤ cs.length) :
 ((cs.take (o + k) ++ vs ++ cs.drop (o + k + vs.length)).drop o).take (k + vs.length) = (cs.drop o).take k ++ vs := by
 have hA : (cs.take (o + k)).length = o + k := by simp; omega
 rw [List.append_assoc, List.drop_append_of_le_length (by omega), List.drop_take, show o + k - o = k by omega, ← List.append_assoc]
 have hB : ((cs.drop o).take k ++ vs).length = k + vs.length := by simp; omega
 rw [← hB, List.take_left']
 rfl
/-- What an append does: to what is owned by the chunk i, whose first k elements are l. -/
theorem run_append_all {w : World} (hs : Sat E w L) (i : Nat) {t t' ty sz by_ : Nat} {z : Value} {d' : TypeDesc} (ht : P.underlying t = some (.slice τ.e)) (ht' : P.underlying t' = some d') (hd' : (match d' with | .int _ => false | _ => true) = true)
 (hi : TyI P τ.e sz z by_) (hsz : sz = τ.sz) (hz : z.cells.size = sz) (S : SV) (l m : List α) (x : Value)
 (hL : L[i]? = some (slc τ true S l)) (hlen : (Builtin.lenOf x).run P w = .ok m.length w) (hfc : ∀ w', w'.heap = w.heap → (Builtin.firstCells sz m.length x).run P w' = .ok (τ.flat m).toArray w')
 (hb : (l.length + m.length) * by_ ≤ 140737488355328) (hb1 : 1 ≤ by_) :
 ∃ S' w', (Builtin.append_ #[t, t'] ty #[S.v, x]).run P w = .ok (SV.v S') w' ∧ Sat E w' (L.set i (slc τ true S' (l ++ m))) := by
 obtain ⟨r, hr, hrs, hrz, hrb⟩ := hi.get
 obtain ⟨p, ⟨hn, hcap, h⟩, hw⟩ := hs.at hL
 have hneed : (l.length + m.length) ≤ 140737488355328 := Nat.le_trans (Nat.le_mul_of_pos_right _ hb1) hb
 have hzeros : (do let d ← underlying t'; pure (match d with | .int _ => true | _ => false) : Sem Bool).run P w = .ok false w := by
  simp only [Sem.run_bind, run_underlying ht', Result.andThen_ok, Sem.run_pure]
  cases d' <;> simp at hd' ⊢
 have hfit : Builtin.nextslicecap (S.n + m.length) S.c * by_ ≤ 281474976710656 ∨ S.n + m.length ≤ S.c := by
  by_cases hroom : S.n + m.length ≤ S.c
  ·exact .inr hroom
  ·left
   have : Builtin.nextslicecap (S.n + m.length) S.c ≤ 2 * (S.n + m.length) := by
    unfold Builtin.nextslicecap
    split
    ·omega
    ·split
     ·omega
     ·rename_i h1 h2
      have grow : ∀ (rounds c N : Nat), c ≤ 2 * N → 256 ≤ N → (∀ c', c' < N → c' + (c' + 768) / 4 ≤ 2 * N) → Builtin.growBy N rounds c ≤ 2 * N := by
       intro rounds
       induction rounds with
       | zero => intro c N h _ _; exact h
       | succ r ih =>
        intro c N h h2 h3
        unfold Builtin.growBy
        split
        ·exact h
        ·exact ih _ _ (h3 c (by omega)) h2 h3
      exact grow 4 S.c (S.n + m.length) (by omega) (by omega) (by intro c' hc'; omega)
   calc Builtin.nextslicecap (S.n + m.length) S.c * by_ ≤ 2 * (S.n + m.length) * by_ := Nat.mul_le_mul_right _ this
    _ = 2 * ((l.length + m.length) * by_) := by rw [hn, Nat.mul_assoc]
    _ ≤ 281474976710656 := by omega
 have hmatch : ∀ (b : Option Addr), S.a = b → S.v = .slice b S.n S.c := fun b hb => by simp [SV.v, hb]
 have hcellsl : ∀ w', w'.heap = w.heap → (Builtin.firstCells sz S.n S.v).run P w' = .ok (τ.flat l).toArray w' := fun w' hw' => by
  have hR := (hs.rd i hL)
  rcases hR.cells with h0 | ⟨a, ha, hc⟩
  ·have hl0 : S.n = 0 := by
    have := τ.flat_length l
    rw [h0] at this
    have hp := τ.pos
    rcases Nat.eq_zero_or_pos l.length with h | h
    ·omega
    ·have := Nat.mul_le_mul_right τ.sz h; simp only [List.length_nil] at *; omega
   rw [h0, hl0]
   cases hS : S.a <;> simp [SV.v, hS, Builtin.firstCells, loadCells, loadCellsFrom]
  ·simp only [SV.v, ha, Builtin.firstCells]
   exact run_cells a (τ.flat l) (fun j u hu => by have := hc j u hu; simpa [World.cell?, hw'] using this) _ (by rw [τ.flat_length, hsz, hn])
 by_cases hroom : S.n + m.length ≤ S.c
 ·-- in place
  have hf := hfc w rfl
  rcases h with ⟨hno, h0⟩ | ⟨_, _, hf0, _⟩ | ⟨b, o, hS, _, cs, fr, hp, hfr, hlen', hcs, hmx⟩
  rotate_left
  ·cases hf0
  rotate_left
  ·refine ⟨S, w, ?_, ?_⟩
   ·have hm0 : m.length = 0 := by omega
    have hS0 : S.n = 0 := by omega
    have hroom' : S.n + m.length ≤ S.c := hroom
    simp only [Builtin.append_, SV.v, hno]
    simp [run_underlying ht, run_underlying ht', sizeOf, typeInfo, hr, hrs, hlen, hroom', hf]
    cases d' <;> simp at hd' <;> simp [hm0]
   ·have : m = [] := List.eq_nil_of_length_eq_zero (by omega)
    subst this
    rw [List.append_nil]
    exact hs.map_at hL fun _ h => h
  ·have hb' := (hw b _ hp).2
   have hmul : (S.n + m.length) * τ.sz ≤ S.c * τ.sz := Nat.mul_le_mul_right _ hroom
   rw [Nat.add_mul] at hmul
   obtain ⟨w', hst, ht1⟩ := run_storeCells (P := P) b τ.e fr (τ.flat m) (o + S.n * τ.sz) 0 cs w hb' hfr (by rw [τ.flat_length]; omega) (τ.flat_one m)
   refine ⟨⟨S.a, S.n + m.length, S.c⟩, w', ?_, ?_⟩
   ·have hroom' : S.n + m.length ≤ S.c := hroom
    simp only [Builtin.append_, SV.v, hS]
    simp [run_underlying ht, run_underlying ht', sizeOf, typeInfo, hr, hrs]
    have hst' : (storeCells ((⟨b, o, none⟩ : Addr).add (S.n * sz)) (τ.flat m)).run P w = .ok () w' := by rw [addr_add, hsz]; exact hst
    cases d' <;> simp at hd' <;> simp [hlen, hroom', hf, hst']
   ·refine hs.turn_at hL (fun p' ⟨_, _, hp2⟩ _ => ?_) ht1
    have hp' : ∃ o', p' b = some o' := by
     rcases hp2 with ⟨hno, _⟩ | ⟨_, _, hf0, _⟩ | ⟨b2, o2, hS2, _, cs2, fr2, hb2, _⟩
     ·rw [hno] at hS; cases hS
     ·cases hf0
     ·rw [hS2] at hS; simp only [Option.some.injEq, Addr.mk.injEq] at hS; obtain ⟨rfl, _⟩ := hS; exact ⟨_, hb2⟩
    have hfl := τ.flat_length m
    refine ⟨hp', by simp [hn], hroom, .inr (.inr ⟨b, o, hS, rfl, cs.take (o + S.n * τ.sz) ++ τ.flat m ++ cs.drop (o + S.n * τ.sz + (τ.flat m).length), fr, by simp, ?_, ?_, ?_, hmx⟩)⟩
    ·have : (cs.take (o + S.n * τ.sz) ++ τ.flat m ++ cs.drop (o + S.n * τ.sz + (τ.flat m).length)).length = cs.length := by simp; omega
     rw [this]; exact hfr
    ·have : (cs.take (o + S.n * τ.sz) ++ τ.flat m ++ cs.drop (o + S.n * τ.sz + (τ.flat m).length)).length = cs.length := by simp; omega
     rw [this]; exact hlen'
    ·rw [τ.flat_append, ← hcs]
     have := splice_window cs o (S.n * τ.sz) (τ.flat m) (by omega)
     rw [hfl, ← Nat.add_mul] at this
     rw [hfl]
     exact this
 ·-- a new row
  have hfit := hfit.resolve_right hroom
  have hn' : ¬ (S.n + m.length ≤ S.c) := hroom
  have h63' : ¬ (9223372036854775807 < ((S.n : Int) + (m.length : Int))) := by omega
  have h48' : ¬ (281474976710656 < Builtin.nextslicecap (S.n + m.length) S.c * by_) := by omega
  have hf := hfc w.drew rfl
  have hfo := hcellsl w.drew rfl
  let cap := grownCap w (S.n + m.length) S.c τ.e
  let C : List Value := τ.flat l ++ τ.flat m ++ (Builtin.zeroCells z.cells (cap - (S.n + m.length))).toList
  have hcapge : S.n + m.length ≤ cap := grownCap_ge w _ _ _
  have hcaple : cap ≤ 9223372036854775807 := by
   have := grownCap_le_maxLen w (S.n + m.length) S.c τ.e (by unfold maxLen; omega)
   unfold maxLen at this; exact this
  refine ⟨⟨some ⟨w.heap.size, 0, none⟩, S.n + m.length, cap⟩, w.drew.alloc (.cells C.toArray τ.e), ?_, ?_⟩
  ·have e1 : C.toArray = (τ.flat l).toArray ++ (τ.flat m).toArray ++ Builtin.zeroCells z.cells (cap - (S.n + m.length)) := by
    simp [C]
   rw [e1]
   have key : (Builtin.append_ #[t, t'] ty #[.slice S.a S.n S.c, x]).run P w = .ok (SV.v ⟨some ⟨w.heap.size, 0, none⟩, S.n + m.length, cap⟩) (w.drew.alloc (.cells ((τ.flat l).toArray ++ (τ.flat m).toArray ++ Builtin.zeroCells z.cells (cap - (S.n + m.length))) τ.e)) := by
    have hfo' : (Builtin.firstCells r.size S.n (.slice S.a S.n S.c)).run P w.drew = .ok (τ.flat l).toArray w.drew := by rw [hrs]; exact hfo
    have hf' : (Builtin.firstCells r.size m.length x).run P w.drew = .ok (τ.flat m).toArray w.drew := by rw [hrs]; exact hf
    simp only [Builtin.append_]
    simp [run_underlying ht, run_underlying ht', sizeOf, typeInfo, hr]
    cases d' <;> simp at hd' <;> simp [zeroValue, typeInfo, hr, hrz, hrb, hlen, hn', h63', h48', Question.forced, hf', hfo', newRow, grownCap, cap, SV.v] <;> (congr 2; rw [← Array.append_assoc]; simp)
   exact key
  ·have hnw := newed_drew_alloc w (.cells C.toArray τ.e)
   have hfl := τ.flat_length (l ++ m)
   rw [τ.flat_append] at hfl
   have hsat := hs.new_row (τ := τ) (l := l ++ m) (c := cap) hnw (.inl (Nat.le_refl _)) (by simp; omega) (by
    have hzl : (Builtin.zeroCells z.cells (cap - (S.n + m.length))).toList.length = (cap - (S.n + m.length)) * τ.sz := by rw [Array.length_toList, size_zeroCells, hz, hsz]
    have hCl : C.length = (τ.flat l).length + (τ.flat m).length + (cap - (S.n + m.length)) * τ.sz := by
     show (τ.flat l ++ τ.flat m ++ (Builtin.zeroCells z.cells (cap - (S.n + m.length))).toList).length = _
     rw [List.length_append, List.length_append, hzl]
    rw [hCl, Nat.sub_mul]
    have := Nat.mul_le_mul_right τ.sz hcapge
    rw [List.length_append, List.length_append] at hfl
    rw [hn] at this ⊢
    omega) (by
    simp only [C]
    rw [List.take_append, show (l ++ m).length * τ.sz - (τ.flat l ++ τ.flat m).length = 0 by omega, List.take_zero, List.append_nil, List.take_of_length_le (by omega), τ.flat_append]) hcaple
   have := hsat.swap i
   rw [hn]
   rw [List.length_append] at this
   exact this
/-- append(s, t...) -/
theorem O_app (i : Nat) {K : Value → List HProp → Prop} {t t' sz by_ : Nat} {z : Value} {x y : Operand} {S T : SV} {l m : List α} [u : TyU P t (.slice τ.e)] [u' : TyU P t' (.slice τ.e)] [v : TyI P τ.e sz z by_] (hL : L[i]? = some (slc τ true S l)) (hT : ∀ w, Sat E w L → Rd τ w T m)
 (hx : ρ.ev x = some S.v) (hy : ρ.ev y = some T.v) (hsz : sz = τ.sz) (hz : z.cells.size = sz) (hb : (l.length + m.length) * by_ ≤ 140737488355328) (hb1 : 1 ≤ by_)
 (hK : ∀ S', K (SV.v S') (L.set i (slc τ true S' (l ++ m)))) : JOp P E n ⟨dst, .call ⟨.builtin .append, #[x, y], #[t, t']⟩, ty, pos, after, g⟩ K ρ L := fun a w ha hs next Q hn => by
 have hR := hT w hs
 obtain ⟨S', w', hr, hs'⟩ := run_append_all (P := P) (ty := ty) hs i u.h u'.h rfl v hsz hz S l m T.v hL (by simp [Builtin.lenOf, hR.1]) (fun w' hw' => by
  rcases hR.cells with h0 | ⟨b, hb, hc⟩
  ·have hl0 : m.length = 0 := by
    have := τ.flat_length m
    rw [h0] at this
    have hp := τ.pos
    rcases Nat.eq_zero_or_pos m.length with h | h
    ·exact h
    ·have := Nat.mul_le_mul_right τ.sz h; simp only [List.length_nil] at *; omega
   rw [h0, hl0]
   cases hS : T.a <;> simp [SV.v, hS, Builtin.firstCells, loadCells, loadCellsFrom]
  ·simp only [SV.v, hb, Builtin.firstCells]
   exact run_cells b (τ.flat m) (fun j u hu => by have := hc j u hu; simpa [World.cell?, hw'] using this) _ (by rw [τ.flat_length, hsz])) hb hb1
 unfold Oper.wp
 simp only [execOp, resolve]
 have e1 : (Array.map a.eval #[x, y]) = #[S.v, T.v] := by simp [ha.ev hx, ha.ev hy]
 simp only [run_bind_pure, invoke, e1, builtin]
 simp only [Sem.run_bind, hr, Result.andThen_ok, Sem.run_pure]
 exact hn _ _ w' (hK S') hs'
/-- append(b, s...) of a string -/
theorem O_appS {β : Ty UInt8} (hβ : ∀ b, β.enc b = [.int .u8 (b.toNat : Int)]) (i : Nat) {K : Value → List HProp → Prop} {t t' sz by_ : Nat} {z : Value} {x y : Operand} {S : SV} {l m : List UInt8} [u : TyU P t (.slice β.e)] [u' : TyU P t' .string] [v : TyI P β.e sz z by_] (hL : L[i]? = some (slc β true S l))
 (hx : ρ.ev x = some S.v) (hy : ρ.ev y = some (str m)) (hsz : sz = β.sz) (hz : z.cells.size = sz) (hb : (l.length + m.length) * by_ ≤ 140737488355328) (hb1 : 1 ≤ by_)
 (hK : ∀ S', K (SV.v S') (L.set i (slc β true S' (l ++ m)))) : JOp P E n ⟨dst, .call ⟨.builtin .append, #[x, y], #[t, t']⟩, ty, pos, after, g⟩ K ρ L := fun a w ha hs next Q hn => by
 have hflat : β.flat m = m.map (fun b : UInt8 => Value.int .u8 (b.toNat : Int)) := by
  clear hK hL hy hs ha hx hb
  induction m with
  | nil => rfl
  | cons b m ih => rw [β.flat_cons, ih, hβ]; rfl
 obtain ⟨S', w', hr, hs'⟩ := run_append_all (P := P) (ty := ty) hs i u.h u'.h rfl v hsz hz S l m (str m) hL (by simp [Builtin.lenOf, size_str]) (fun w' hw' => by
  have := Lib.run_firstCells_string (P := P) w' sz ⟨m.toArray⟩
  rw [size_str] at this
  rw [this, hflat]
  simp [Lib.strCells]) hb hb1
 unfold Oper.wp
 simp only [execOp, resolve]
 have e1 : (Array.map a.eval #[x, y]) = #[S.v, str m] := by simp [ha.ev hx, ha.ev hy]
 simp only [run_bind_pure, invoke, e1, builtin]
 simp only [Sem.run_bind, hr, Result.andThen_ok, Sem.run_pure]
 exact hn _ _ w' (hK S') hs'
/-- []byte(s) -/
theorem O_s2b {β : Ty UInt8} (hβ : ∀ b, β.enc b = [.int .u8 (b.toNat : Int)]) (hβs : β.sz = 1) {K : Value → List HProp → Prop} {s t : Nat} {x : Operand} {m : List UInt8} [u : TyU P s .string] [u' : TyU P t (.slice β.e)] [u8 : TyU P β.e (.int .u8)] (hx : ρ.ev x = some (str m)) (hm : m.length ≤ 140737488355328)
 (hK : ∀ S, K (SV.v S) (slc β true S m :: L)) : JOp P E n ⟨dst, .convert s t x, ty, pos, after, g⟩ K ρ L := fun a w ha hs next Q hn => by
 have hr := run_bytes_of_string (P := P) w s t β.e ⟨m.toArray⟩ u.h u'.h u8.h
 have hflat : β.flat m = m.map (fun b : UInt8 => Value.int .u8 (b.toNat : Int)) := by
  clear hK hs ha hx hr hm
  induction m with
  | nil => rfl
  | cons b m ih => rw [β.flat_cons, ih, hβ]; rfl
 rw [size_str] at hr
 have hge := grownCap_ge w m.length 0 β.e
 have hle : grownCap w m.length 0 β.e ≤ 9223372036854775807 := by
  have := grownCap_le_maxLen w m.length 0 β.e (by unfold maxLen; omega)
  unfold maxLen at this; exact this
 have hC : (bytesRow ⟨m.toArray⟩ (grownCap w m.length 0 β.e)).toList = β.flat m ++ List.replicate (grownCap w m.length 0 β.e - m.length) (.int .u8 0) := by
  rw [hflat]
  simp [bytesRow, size_str]
 have hnw := newed_drew_alloc w (.cells (bytesRow ⟨m.toArray⟩ (grownCap w m.length 0 β.e)) β.e ((bytesRow ⟨m.toArray⟩ (grownCap w m.length 0 β.e)).size, (bytesRow ⟨m.toArray⟩ (grownCap w m.length 0 β.e)).size + 1))
 have hfl := β.flat_length m
 have hsz : (bytesRow ⟨m.toArray⟩ (grownCap w m.length 0 β.e)).toList.length = grownCap w m.length 0 β.e := by
  rw [hC, List.length_append, hfl, List.length_replicate, hβs]; omega
 have hsat := hs.new_row (τ := β) (l := m) (c := grownCap w m.length 0 β.e) (cs := (bytesRow ⟨m.toArray⟩ (grownCap w m.length 0 β.e)).toList) (by simpa using hnw) (.inr (by simp)) hge (by rw [hsz, hβs]; omega) (by
  rw [hC, List.take_append, hfl, show m.length * β.sz - m.length * β.sz = 0 by omega, List.take_zero, List.append_nil, List.take_of_length_le (by omega)]) hle
 unfold Oper.wp
 simp only [execOp, ha.ev hx]
 simp only [Sem.run_bind, hr, Result.andThen_ok, Sem.run_pure]
 exact hn _ _ _ (hK ⟨some ⟨w.heap.size, 0, none⟩, m.length, grownCap w m.length 0 β.e⟩) hsat
end
end Go.SL
