/- Part 6 of the texts below the row: Sl5. -/
import Derived.Laws.IdiomStrings
import Derived.Test.YtdggicfcpcjjlaaGreatDoorM1
import Derived.Test.YtdggicfcpcjjlaaGreatDoorM5
/- Slices: owned, or read; the rules of the operations on them. -/
set_option autoImplicit false
namespace Go.SL
/-- How values of a Lean type lie in cells. -/
structure Ty (α : Type) where
 e : Nat
 sz : Nat
 enc : α → List Value
 len : ∀ a, (enc a).length = sz
 pos : 0 < sz
 one : ∀ a, ∀ v ∈ enc a, v.oneCell' = true
structure SV where
 a : Option Addr
 n : Nat
 c : Nat
abbrev SV.v (S : SV) : Value := .slice S.a S.n S.c
abbrev SV.nil : SV := ⟨none, 0, 0⟩
def SV.sub (S : SV) (sz lo hi : Nat) : SV := ⟨if S.c = lo then S.a else S.a.map (·.add (lo * sz)), hi - lo, S.c - lo⟩
def pAt (S : SV) (c : Nat) : Value := .pointer (some ((S.a.getD ⟨0, 0, none⟩).add c))
section
variable {α : Type} (τ : Ty α)
def Ty.flat (l : List α) : List Value := l.flatMap τ.enc
theorem Ty.flat_cons (a : α) (l : List α) : τ.flat (a :: l) = τ.enc a ++ τ.flat l := by simp [Ty.flat]
theorem Ty.flat_append (l m : List α) : τ.flat (l ++ m) = τ.flat l ++ τ.flat m := by simp [Ty.flat]
theorem Ty.flat_length (l : List α) : (τ.flat l).length = l.length * τ.sz := by
 induction l with
 | nil => simp [Ty.flat]
 | cons a l ih => rw [Ty.flat_cons, List.length_append, ih, τ.len, List.length_cons, Nat.add_mul]; omega
theorem Ty.flat_one (l : List α) : ∀ v ∈ τ.flat l, v.oneCell' = true := by
 intro v hv
 simp only [Ty.flat, List.mem_flatMap] at hv
 obtain ⟨a, _, ha⟩ := hv
 exact τ.one a v ha
theorem Ty.flat_take (l : List α) (k : Nat) : (τ.flat l).take (k * τ.sz) = τ.flat (l.take k) := by
 induction l generalizing k with
 | nil => simp [Ty.flat]
 | cons a l ih =>
  cases k with
  | zero => simp [Ty.flat]
  | succ k => rw [List.take_succ_cons, Ty.flat_cons, Ty.flat_cons, ← ih, Nat.add_mul, List.take_append, τ.len, List.take_of_length_le (by rw [τ.len]; omega)]; congr 2; omega
theorem Ty.flat_drop (l : List α) (k : Nat) : (τ.flat l).drop (k * τ.sz) = τ.flat (l.drop k) := by
 induction l generalizing k with
 | nil => simp [Ty.flat]
 | cons a l ih =>
  cases k with
  | zero => simp
  | succ k => rw [List.drop_succ_cons, Ty.flat_cons, ← ih, Nat.add_mul, List.drop_append, τ.len, List.drop_of_length_le (by rw [τ.len]; omega)]; simp
theorem Ty.flat_get (l : List α) (k f : Nat) (hk : k < l.length) (hf : f < τ.sz) : (τ.flat l)[k * τ.sz + f]? = (τ.enc l[k])[f]? := by
 have h1 : (τ.flat l)[k * τ.sz + f]? = ((τ.flat l).drop (k * τ.sz))[f]? := by rw [List.getElem?_drop]
 rw [h1, τ.flat_drop, List.drop_eq_getElem_cons hk, τ.flat_cons, List.getElem?_append_left (by rw [τ.len]; exact hf)]
theorem Ty.flat_at (l : List α) (k : Nat) (hk : k < l.length) : ((τ.flat l).drop (k * τ.sz)).take τ.sz = τ.enc l[k] := by
 rw [τ.flat_drop, List.drop_eq_getElem_cons hk, τ.flat_cons, List.take_append, τ.len, List.take_of_length_le (by rw [τ.len]; omega)]; simp
theorem Ty.flat_set (l : List α) (k : Nat) (a : α) (hk : k < l.length) : τ.flat (l.set k a) = (τ.flat l).take (k * τ.sz) ++ τ.enc a ++ (τ.flat l).drop ((k + 1) * τ.sz) := by
 rw [τ.flat_take, τ.flat_drop, List.set_eq_take_append_cons_drop, if_pos hk, τ.flat_append, τ.flat_cons]; simp
theorem Ty.flat_replicate (m : Nat) (a : α) : τ.flat (List.replicate m a) = (List.replicate m (τ.enc a)).flatten := by
 induction m with
 | zero => simp [Ty.flat]
 | succ m ih => rw [List.replicate_succ, τ.flat_cons, ih, List.replicate_succ, List.flatten_cons]
/-- A slice S that holds l: owned (full), or a part of what was there at the start. -/
def slc (full : Bool) (S : SV) (l : List α) : HProp := fun E h => S.n = l.length ∧ S.n ≤ S.c ∧ ((S.a = none ∧ S.c = 0) ∨
 (∃ a, S.a = some a ∧ full = false ∧ ∀ (j : Nat) u, (τ.flat l)[j]? = some u → a.block < E.heap.size ∧ E.cell? (a.add j) = some u) ∨
 ∃ g o, S.a = some ⟨g, o, none⟩ ∧ full = true ∧ ∃ (cs : List Value) (fr : Nat × Nat), h g = some (.cells cs.toArray τ.e fr) ∧ (fr.2 ≤ fr.1 ∨ cs.length ≤ fr.1) ∧ o + S.c * τ.sz ≤ cs.length ∧ (cs.drop o).take (S.n * τ.sz) = τ.flat l ∧ S.c ≤ 9223372036854775807)
/-- What S reads as in a world. -/
def Rd (w : World) (S : SV) (m : List α) : Prop := S.n = m.length ∧ S.n ≤ S.c ∧ ((S.a = none ∧ S.c = 0) ∨ ∃ a, S.a = some a ∧ ∀ (j : Nat) u, (τ.flat m)[j]? = some u → w.cell? (a.add j) = some u)
end
section
variable {α : Type} {τ : Ty α} {E w : World} {L : List HProp}
theorem Sat.old_cell (h : Sat E w L) {a : Addr} (ha : a.block < E.heap.size) : w.cell? a = E.cell? a := by simp [World.cell?, h.old _ ha]
theorem Sat.rd (h : Sat E w L) (i : Nat) {full : Bool} {S : SV} {l : List α} (hi : L[i]? = some (slc τ full S l)) : Rd τ w S l := by
 obtain ⟨p, ⟨h1, h2, h3⟩, hw⟩ := h.at hi
 refine ⟨h1, h2, ?_⟩
 rcases h3 with h3 | ⟨a, ha, _, h4⟩ | ⟨g, o, ha, _, h4⟩
 ·exact .inl h3
 ·refine .inr ⟨_, ha, fun j u hu => ?_⟩
  obtain ⟨hg, hc⟩ := h4 j u hu
  have hb : (a.add j).block = a.block := by unfold Addr.add; split <;> rfl
  rw [h.old_cell (by rw [hb]; exact hg)]
  exact hc
 ·refine .inr ⟨_, ha, fun j u hu => ?_⟩
  rw [addr_add]
  obtain ⟨cs, fr, hb, _, hl, hcs, _⟩ := h4
  have hb := (hw g _ hb).2
  rw [← hcs, List.getElem?_take] at hu
  split at hu
  ·rw [List.getElem?_drop] at hu
   simp [World.cell?, hb, hu]
  ·cases hu
theorem Rd.sub {S : SV} {l : List α} (h : Rd τ w S l) (lo hi : Nat) (h1 : lo ≤ hi) (h2 : hi ≤ l.length) : Rd τ w (S.sub τ.sz lo hi) ((l.take hi).drop lo) := by
 obtain ⟨hn, hc, h⟩ := h
 refine ⟨by simp [SV.sub]; omega, by simp [SV.sub]; omega, ?_⟩
 rcases h with ⟨ha, h0⟩ | ⟨a, ha, h⟩
 ·left; simp [SV.sub, ha, h0]
 ·right
  have key : ∀ (j : Nat) u, (τ.flat ((l.take hi).drop lo))[j]? = some u → w.cell? ((a.add (lo * τ.sz)).add j) = some u := fun j u hu => by
   rw [addr_add_add]
   refine h _ u ?_
   rw [← τ.flat_drop, List.getElem?_drop, ← τ.flat_take, List.getElem?_take] at hu
   split at hu
   ·exact hu
   ·cases hu
  by_cases e : S.c = lo
  ·refine ⟨a, by simp [SV.sub, e, ha], fun j u hu => ?_⟩
   have : (l.take hi).drop lo = [] := by
    apply List.eq_nil_of_length_eq_zero; simp; omega
   rw [this] at hu
   simp [Ty.flat] at hu
  ·exact ⟨a.add (lo * τ.sz), by simp [SV.sub, e, ha], key⟩
theorem Rd.cells {S : SV} {l : List α} (h : Rd τ w S l) : τ.flat l = [] ∨ ∃ a, S.a = some a ∧ ∀ (j : Nat) u, (τ.flat l)[j]? = some u → w.cell? (a.add j) = some u := by
 rcases h.2.2 with ⟨ha, h0⟩ | h'
 ·left
  have : l = [] := List.eq_nil_of_length_eq_zero (by have := h.1; have := h.2.1; omega)
  rw [this]; rfl
 ·exact .inr h'
/-- A part of an owned slice. -/
theorem own_sub {full : Bool} {S : SV} {l : List α} {g : Frag} (h : slc τ full S l E g) (lo hi : Nat) (h1 : lo ≤ hi) (h2 : hi ≤ l.length) : slc τ full (S.sub τ.sz lo hi) ((l.take hi).drop lo) E g := by
 obtain ⟨hn, hc, h⟩ := h
 refine ⟨by simp [SV.sub]; omega, by simp [SV.sub]; omega, ?_⟩
 have hflat : τ.flat ((l.take hi).drop lo) = ((τ.flat l).take (hi * τ.sz)).drop (lo * τ.sz) := by rw [← τ.flat_drop, ← τ.flat_take]
 rcases h with ⟨ha, h0⟩ | ⟨a, ha, hf, h⟩ | ⟨b, o, ha, hf, h⟩
 ·left; simp [SV.sub, ha, h0]
 ·refine .inr (.inl ?_)
  by_cases e : S.c = lo
  ·refine ⟨a, by simp [SV.sub, e, ha], hf, fun j u hu => ?_⟩
   have hnil : (l.take hi).drop lo = [] := List.eq_nil_of_length_eq_zero (by simp; omega)
   rw [hnil] at hu
   simp [Ty.flat] at hu
  ·refine ⟨a.add (lo * τ.sz), by simp [SV.sub, e, ha], hf, fun j u hu => ?_⟩
   rw [hflat, List.getElem?_drop, List.getElem?_take] at hu
   split at hu
   ·have := h _ u hu
    have hb : (a.add (lo * τ.sz)).block = a.block := by unfold Addr.add; split <;> rfl
    rw [addr_add_add, hb]
    exact this
   ·cases hu
 ·refine .inr (.inr ?_)
  by_cases e : S.c = lo
  ·refine ⟨b, o, by simp [SV.sub, e, ha], hf, ?_⟩
   have hnil : (l.take hi).drop lo = [] := List.eq_nil_of_length_eq_zero (by simp; omega)
   rw [hnil]
   obtain ⟨cs, fr, hb, hf, hl, hcs, hm⟩ := h
   have e2 : hi - lo = 0 := by omega
   exact ⟨cs, fr, hb, hf, by simp [SV.sub]; have : (S.c - lo) * τ.sz ≤ S.c * τ.sz := Nat.mul_le_mul_right _ (by omega); omega, by simp [SV.sub, e2, Ty.flat], by simp [SV.sub]; omega⟩
  ·refine ⟨b, o + lo * τ.sz, by simp [SV.sub, e, ha, addr_add], hf, ?_⟩
   have hmul : lo * τ.sz ≤ hi * τ.sz := Nat.mul_le_mul_right _ h1
   have hmul2 : (hi - lo) * τ.sz = hi * τ.sz - lo * τ.sz := Nat.sub_mul _ _ _
   have hmul3 : (S.c - lo) * τ.sz = S.c * τ.sz - lo * τ.sz := Nat.sub_mul _ _ _
   have hmul4 : lo * τ.sz ≤ S.c * τ.sz := Nat.mul_le_mul_right _ (by omega)
   have hmul5 : hi * τ.sz ≤ S.n * τ.sz := Nat.mul_le_mul_right _ (by omega)
   obtain ⟨cs, fr, hb, hf, hl, hcs, hm⟩ := h
   refine ⟨cs, fr, hb, hf, by simp only [SV.sub]; omega, ?_, by simp only [SV.sub]; omega⟩
   rw [hflat, ← hcs]
   simp only [SV.sub]
   rw [List.take_take, Nat.min_eq_left hmul5, List.drop_take, List.drop_drop, hmul2]
theorem Sat.sub_at (h : Sat E w L) (i : Nat) {full : Bool} {S : SV} {l : List α} (hi' : L[i]? = some (slc τ full S l)) (lo hi : Nat) (h1 : lo ≤ hi) (h2 : hi ≤ l.length) : Sat E w (L.set i (slc τ full (S.sub τ.sz lo hi) ((l.take hi).drop lo))) :=
 h.map_at hi' fun _ hg => own_sub hg lo hi h1 h2
theorem own_nil (τ : Ty α) (full : Bool) (E : World) (g : Frag) : slc τ full SV.nil [] E g := ⟨rfl, Nat.le_refl _, .inl ⟨rfl, rfl⟩⟩
theorem Sat.lay_nil (h : Sat E w L) (τ : Ty α) (full : Bool) : Sat E w (slc τ full SV.nil [] :: L) := h.lay fun g => own_nil τ full E g
end
section
variable {α : Type} {τ : Ty α} {P : Program} {E : World} {n : Nat} {ρ : Env} {L : List HProp} {dst : Option Tmp} {ty : TypeId} {pos : String} {after : Array Edge} {g : Option (Nat × Bool)}
theorem Q_len {t e : Nat} {x : Operand} {S : SV} {m : List α} [u : TyU P t (.slice e)] (hT : ∀ w, Sat E w L → Rd τ w S m) (hx : ρ.ev x = some S.v) : QOp P E n ⟨dst, .call ⟨.builtin .len, #[x], #[t]⟩, ty, pos, after, g⟩ ρ L (.int .i64 (m.length : Int)) := fun a w ha hs => by
 have := (hT w hs).1
 exact run_builtin (args := [x]) (vs := [S.v]) a w ha (by simp [Env.evs, hx]) (fun cs => by simp [builtin, Builtin.len_, run_underlying u.h, goInt, this])
theorem Q_lenAt (i : Nat) {t e : Nat} {x : Operand} {full : Bool} {S : SV} {l : List α} [u : TyU P t (.slice e)] (hi : L[i]? = some (slc τ full S l)) (hx : ρ.ev x = some S.v) : QOp P E n ⟨dst, .call ⟨.builtin .len, #[x], #[t]⟩, ty, pos, after, g⟩ ρ L (.int .i64 (l.length : Int)) :=
 Q_len (fun _ hs => hs.rd i hi) hx
/-- Of a slice whose length is written in it. -/
theorem Q_lenV {t e : Nat} {x : Operand} {S : SV} [u : TyU P t (.slice e)] (hx : ρ.ev x = some S.v) : QOp P E n ⟨dst, .call ⟨.builtin .len, #[x], #[t]⟩, ty, pos, after, g⟩ ρ L (.int .i64 (S.n : Int)) := fun a w ha hs =>
 run_builtin (args := [x]) (vs := [S.v]) a w ha (by simp [Env.evs, hx]) (fun cs => by simp [builtin, Builtin.len_, run_underlying u.h, goInt])
/-- The address of an element. -/
theorem Q_ix {t sz by_ : Nat} {z : Value} {x y : Operand} {S : SV} {m : List α} {kk : IntKind} {i : Int} (k : Nat) [u : TyU P t (.slice τ.e)] [v : TyI P τ.e sz z by_] (hT : ∀ w, Sat E w L → Rd τ w S m) (hx : ρ.ev x = some S.v) (hy : ρ.ev y = some (.int kk i)) (hi : i = (k : Int)) (hk : k < m.length) (hsz : sz = τ.sz) :
 QOp P E n ⟨dst, .indexAddr t x y, ty, pos, after, g⟩ ρ L (pAt S (k * τ.sz)) := fun a w ha hs => by
 obtain ⟨hn, hc, h⟩ := hT w hs
 obtain ⟨r, hr, hs', _⟩ := v.get
 subst hi
 have hlt : (k : Int) < S.n := by omega
 have hlt' : ¬ S.n ≤ k := by omega
 have hlt2 : k < S.n := by omega
 have hex : ∃ b, S.a = some b := by
  rcases h with ⟨_, h0⟩ | ⟨b, hb, _⟩
  ·omega
  ·exact ⟨b, hb⟩
 obtain ⟨b, hb⟩ := hex
 simp only [execOp, ha.ev hx, ha.ev hy]
 simp only [Instr.indexAt, asIntOf]
 simp [run_underlying u.h, hlt2, sizeOf, typeInfo, hr, hs', hsz, pAt, hb]
theorem Q_ixAt (i' : Nat) {t sz by_ : Nat} {z : Value} {x y : Operand} {full : Bool} {S : SV} {l : List α} {kk : IntKind} {i : Int} (k : Nat) [u : TyU P t (.slice τ.e)] [v : TyI P τ.e sz z by_] (hl : L[i']? = some (slc τ full S l)) (hx : ρ.ev x = some S.v) (hy : ρ.ev y = some (.int kk i)) (hi : i = (k : Int)) (hk : k < l.length) (hsz : sz = τ.sz) :
 QOp P E n ⟨dst, .indexAddr t x y, ty, pos, after, g⟩ ρ L (pAt S (k * τ.sz)) := Q_ix k (fun _ hs => hs.rd i' hl) hx hy hi hk hsz
theorem Rd.cell_at {w : World} {S : SV} {m : List α} (h : Rd τ w S m) (c : Nat) (u : Value) (hu : (τ.flat m)[c]? = some u) : w.cell? ((S.a.getD ⟨0, 0, none⟩).add c) = some u := by
 rcases h.cells with h0 | ⟨a, ha, h⟩
 ·rw [h0] at hu; cases hu
 ·rw [ha]; exact h c u hu
/-- A cell of an element. -/
theorem Q_ldE {t c : Nat} {x : Operand} {S : SV} {m : List α} {d : TypeDesc} {v : Value} (k f : Nat) [u : TyU P t d] (hT : ∀ w, Sat E w L → Rd τ w S m) (hx : ρ.ev x = some (pAt S c)) (hc : c = k * τ.sz + f) (hd : isAggD d = false) (hk : k < m.length) (hf : f < τ.sz) (hv : (τ.enc m[k])[f]? = some v) :
 QOp P E n ⟨dst, .load t x, ty, pos, after, g⟩ ρ L v := fun a w ha hs => by
 have h1 := (hT w hs).cell_at c v (by rw [hc, τ.flat_get m k f hk hf]; exact hv)
 have hx' := ha.ev hx
 simp only [pAt] at hx'
 simp only [execOp, hx']
 simp [Instr.loadAt, Instr.sureAddr, loadVar, run_isAgg u.h, hd, h1]
theorem Q_ldEAt (i : Nat) {t c : Nat} {x : Operand} {full : Bool} {S : SV} {l : List α} {d : TypeDesc} {v : Value} (k f : Nat) [u : TyU P t d] (hl : L[i]? = some (slc τ full S l)) (hx : ρ.ev x = some (pAt S c)) (hc : c = k * τ.sz + f) (hd : isAggD d = false) (hk : k < l.length) (hf : f < τ.sz) (hv : (τ.enc l[k])[f]? = some v) :
 QOp P E n ⟨dst, .load t x, ty, pos, after, g⟩ ρ L v := Q_ldE k f (fun _ hs => hs.rd i hl) hx hc hd hk hf hv
/-- A part of an element, or the whole. -/
theorem Q_ldEA {t c : Nat} {x : Operand} {S : SV} {m : List α} {d : TypeDesc} {vs : List Value} {sz by_ : Nat} {z : Value} (k f : Nat) [u : TyU P t d] [r : TyI P t sz z by_] (hT : ∀ w, Sat E w L → Rd τ w S m) (hx : ρ.ev x = some (pAt S c)) (hc : c = k * τ.sz + f) (hd : isAggD d = true) (hk : k < m.length) (hf : f + sz ≤ τ.sz) (hv : ((τ.enc m[k]).drop f).take sz = vs) :
 QOp P E n ⟨dst, .load t x, ty, pos, after, g⟩ ρ L (.agg vs.toArray) := fun a w ha hs => by
 obtain ⟨i, hi, hsz, _⟩ := r.get
 subst hv
 have h1 : (loadCells ((S.a.getD ⟨0, 0, none⟩).add c) sz).run P w = .ok (((τ.enc m[k]).drop f).take sz).toArray w := by
  refine run_cells _ _ (fun j u hu => ?_) _ (by simp [τ.len]; omega)
  rw [addr_add_add]
  refine (hT w hs).cell_at _ u ?_
  rw [List.getElem?_take] at hu
  split at hu
  ·rw [List.getElem?_drop] at hu
   rw [hc, Nat.add_assoc, τ.flat_get m k (f + j) hk (by omega)]; exact hu
  ·cases hu
 have hx' := ha.ev hx
 simp only [pAt] at hx'
 simp only [execOp, hx']
 simp [Instr.loadAt, Instr.sureAddr, loadVar, run_isAgg u.h, hd, sizeOf, typeInfo, hi, hsz, h1]
theorem Q_ldEAAt (i : Nat) {t c : Nat} {x : Operand} {full : Bool} {S : SV} {l : List α} {d : TypeDesc} {vs : List Value} {sz by_ : Nat} {z : Value} (k f : Nat) [u : TyU P t d] [r : TyI P t sz z by_] (hl : L[i]? = some (slc τ full S l)) (hx : ρ.ev x = some (pAt S c)) (hc : c = k * τ.sz + f) (hd : isAggD d = true) (hk : k < l.length) (hf : f + sz ≤ τ.sz) (hv : ((τ.enc l[k]).drop f).take sz = vs) :
 QOp P E n ⟨dst, .load t x, ty, pos, after, g⟩ ρ L (.agg vs.toArray) := Q_ldEA k f (fun _ hs => hs.rd i hl) hx hc hd hk hf hv
/-- A store into an element. -/
theorem O_stE (i : Nat) {K : Value → List HProp → Prop} {t c sz by_ : Nat} {z v : Value} {x y : Operand} {S : SV} {l : List α} {vs : List Value} (k f : Nat) (a' : α) [r : TyI P t sz z by_] (hx : ρ.ev x = some (pAt S c)) (hy : ρ.ev y = some v)
 (hl : L[i]? = some (slc τ true S l)) (hc : c = k * τ.sz + f) (hvs : v.cells.toList = vs) (hsz : vs.length = sz) (h1 : ∀ c ∈ vs, c.oneCell' = true) (hk : k < l.length) (hf : f + sz ≤ τ.sz)
 (ha' : (τ.enc l[k]).take f ++ vs ++ (τ.enc l[k]).drop (f + sz) = τ.enc a') (hK : K undef (L.set i (slc τ true S (l.set k a')))) : JOp P E n ⟨none, .store t x y, ty, pos, after, g⟩ K ρ L := fun c' w ha hs next Q hn => by
 obtain ⟨r', hr, hsz', _⟩ := r.get
 obtain ⟨p, ⟨hn', hcap, h⟩, hw⟩ := hs.at hl
 have hx' := ha.ev hx
 rcases h with ⟨_, h0⟩ | ⟨_, _, hf0, _⟩ | ⟨b, o, hS, _, cs, fr, hb, hfr, hlen, hcs, hm⟩
 ·omega
 ·cases hf0
 have hb' := (hw b _ hb).2
 have hkl : (k + 1) * τ.sz ≤ S.n * τ.sz := Nat.mul_le_mul_right _ (by omega)
 have hnc : S.n * τ.sz ≤ S.c * τ.sz := Nat.mul_le_mul_right _ hcap
 rw [Nat.add_mul, Nat.one_mul] at hkl
 obtain ⟨w', hst, ht⟩ := run_storeCells (P := P) b τ.e fr vs (o + c) 0 cs w hb' hfr (by omega) h1
 have h2 : v.cells.size = sz := by rw [← hsz, ← hvs]; simp
 simp only [pAt, hS, Option.getD_some, addr_add] at hx'
 unfold Oper.wp
 simp only [execOp, hx', ha.ev hy]
 have hst : (Instr.storeAt t (.pointer (some ⟨b, o + c, none⟩)) v).run P w = .ok () w' := by
  simp only [Instr.storeAt, Instr.sureAddr, storeVar]
  simp only [Sem.run_bind, Sem.run_pure, Result.andThen_ok, sizeOf, typeInfo, run_program, hr, Sem.run_ite]
  simp [hsz', h2]
  rw [hvs]
  simpa using hst
 simp only [Sem.run_bind, hst, Result.andThen_ok, Sem.run_pure]
 refine hn undef _ w' hK ?_
 refine hs.turn_at hl (fun p' ⟨_, _, hp⟩ hw' => ?_) ht
 have hp' : ∃ o', p' b = some o' := by
  rcases hp with ⟨hno, _⟩ | ⟨_, _, hf0, _⟩ | ⟨b2, o2, hS2, _, cs2, fr2, hb2, _⟩
  ·rw [hno] at hS; cases hS
  ·cases hf0
  ·rw [hS2] at hS; simp only [Option.some.injEq, Addr.mk.injEq] at hS; obtain ⟨rfl, _⟩ := hS; exact ⟨_, hb2⟩
 refine ⟨hp', by simpa using hn', hcap, .inr (.inr ⟨b, o, hS, rfl, cs.take (o + c) ++ vs ++ cs.drop (o + c + vs.length), fr, by simp, ?_, ?_, ?_, hm⟩)⟩
 ·have : (cs.take (o + c) ++ vs ++ cs.drop (o + c + vs.length)).length = cs.length := by simp; omega
  rw [this]; exact hfr
 ·have : (cs.take (o + c) ++ vs ++ cs.drop (o + c + vs.length)).length = cs.length := by simp; omega
  rw [this]; exact hlen
 ·rw [τ.flat_set _ _ _ hk, ← hcs, ← ha', ← τ.flat_at l k hk, ← hcs]
  have e1 : o + c = o + (k * τ.sz + f) := by rw [hc]
  apply List.ext_getElem?
  intro j
  have hpos := τ.pos
  simp only [Nat.add_mul, Nat.one_mul] at *
  simp only [List.getElem?_take, List.getElem?_drop, List.getElem?_append, List.length_append, List.length_take, List.length_drop, e1, hsz]
  by_cases c1 : j < S.n * τ.sz
  ·simp only [c1, if_true]
   by_cases c2 : j < k * τ.sz
   ·repeat (first | rw [if_pos (by omega)] | rw [if_neg (by omega)])
   ·by_cases c3 : j < k * τ.sz + f
    ·repeat (first | rw [if_pos (by omega)] | rw [if_neg (by omega)])
     congr 1; omega
    ·by_cases c4 : j < k * τ.sz + f + sz
     ·repeat (first | rw [if_pos (by omega)] | rw [if_neg (by omega)])
      congr 1; omega
     ·by_cases c5 : j < k * τ.sz + τ.sz
      ·repeat (first | rw [if_pos (by omega)] | rw [if_neg (by omega)])
       congr 1; omega
      ·repeat (first | rw [if_pos (by omega)] | rw [if_neg (by omega)])
       congr 1; omega
  ·simp only [c1, if_false]
   symm
   repeat (first | rw [if_pos (by omega)] | rw [if_neg (by omega)])
theorem Q_slH {t sz by_ : Nat} {z : Value} {x b : Operand} {S : SV} {m : List α} {k' : IntKind} {j : Int} (hi : Nat) [u : TyU P t (.slice τ.e)] [v : TyI P τ.e sz z by_] (hT : ∀ w, Sat E w L → Rd τ w S m) (hx : ρ.ev x = some S.v) (hb : ρ.ev b = some (.int k' j))
 (hj : j = (hi : Int)) (h2 : hi ≤ m.length) (_ : sz = τ.sz) : QOp P E n ⟨dst, .slice t x none (some b) none, ty, pos, after, g⟩ ρ L (S.sub τ.sz 0 hi).v := fun c w hc hs => by
 obtain ⟨hn, hcap, _⟩ := hT w hs
 obtain ⟨r, hr, hs', _⟩ := v.get
 subst hj
 simp only [execOp, hc.ev hx, Option.map_some, hc.ev hb, Option.map_none]
 have e2 : (hi : Int) ≤ S.c := by omega
 simp [Instr.sliceAt, run_underlying u.h, Instr.slice, Instr.sliceBounds, run_sliceBound, e2, sizeOf, typeInfo, hr, SV.sub]
theorem Q_slL {t sz by_ : Nat} {z : Value} {x a : Operand} {S : SV} {m : List α} {k : IntKind} {i : Int} (lo : Nat) [u : TyU P t (.slice τ.e)] [v : TyI P τ.e sz z by_] (hT : ∀ w, Sat E w L → Rd τ w S m) (hx : ρ.ev x = some S.v) (ha : ρ.ev a = some (.int k i))
 (hi' : i = (lo : Int)) (h1 : lo ≤ m.length) (hsz : sz = τ.sz) : QOp P E n ⟨dst, .slice t x (some a) none none, ty, pos, after, g⟩ ρ L (S.sub τ.sz lo m.length).v := fun c w hc hs => by
 obtain ⟨hn, hcap, _⟩ := hT w hs
 obtain ⟨r, hr, hs', _⟩ := v.get
 subst hi'
 simp only [execOp, hc.ev hx, Option.map_some, hc.ev ha, Option.map_none]
 have e1 : (lo : Int) ≤ (m.length : Int) := by omega
 simp [Instr.sliceAt, run_underlying u.h, Instr.slice, Instr.sliceBounds, run_sliceBound, e1, sizeOf, typeInfo, hr, hs', hsz, SV.sub, hn]
/-- A string of bytes. -/
theorem Q_b2s {β : Ty UInt8} (hβ : ∀ b, β.enc b = [.int .u8 (b.toNat : Int)]) {s t : Nat} {x : Operand} {S : SV} {m : List UInt8} [u : TyU P s (.slice β.e)] [u' : TyU P t .string] [u8 : TyU P β.e (.int .u8)] (hT : ∀ w, Sat E w L → Rd β w S m) (hx : ρ.ev x = some S.v) :
 QOp P E n ⟨dst, .convert s t x, ty, pos, after, g⟩ ρ L (str m) := fun a w ha hs => by
 have hR := hT w hs
 have hflat : β.flat m = m.map (fun b : UInt8 => Value.int .u8 (b.toNat : Int)) := by
  clear hT hR hs ha hx
  induction m with
  | nil => rfl
  | cons b m ih => rw [β.flat_cons, ih, hβ]; rfl
 have e1 : (convert s t S.v).run P w = .ok (str m) w := by
  rcases hR.cells with h0 | ⟨b, hb, hc⟩
  ·have hm : m = [] := by
    have := β.flat_length m
    rw [h0] at this
    have hp := β.pos
    cases m with
    | nil => rfl
    | cons a m => simp only [List.length_nil, List.length_cons] at this; have := Nat.mul_le_mul_right β.sz (show 1 ≤ m.length + 1 by omega); omega
   subst hm
   have hn : S.n = 0 := hR.1
   rw [SV.v, run_convert_bytes_string w s t β.e S.a S.n S.c u.h u8.h u'.h, hn]
   cases hS : S.a with
   | none => simp [Conv.bytesToString]; rfl
   | some b => simp [Conv.bytesToString, loadCells, loadCellsFrom]; rfl
  ·rw [SV.v, hb, hR.1]
   exact run_convert_bytes_back w s t β.e b S.c m u.h u8.h u'.h fun j hj => hc j _ (by rw [hflat]; simp [hj])
 simp only [execOp, ha.ev hx, Sem.run_bind, e1, Result.andThen_ok, Sem.run_pure]
end
end Go.SL
