/- Part 13 of the texts below the row: Sl13, Sl15, Sl23, Sl21, Sl29, Sl18, Cmp. -/
import Derived.Laws.StructEq
import Derived.Lib.Overlaps
import Derived.Laws.Externs
import Derived.Lib.AppendStr
import Derived.Scope
import Derived.KernelRfl
import Derived.Test.YtdggicfcpcjjlaaGreatDoorM1
import Derived.Test.YtdggicfcpcjjlaaGreatDoorM9
import Derived.Test.YtdggicfcpcjjlaaGreatDoorM11
/- Arrays. -/
set_option autoImplicit false
namespace Go.SL
section
variable {P : Program} {E : World} {n : Nat} {ρ : Env} {L : List HProp} {dst : Option Tmp} {ty : TypeId} {pos : String} {after : Array Edge} {g : Option (Nat × Bool)} {t t' m el sz by_ : Nat} {z : Value} {x y : Operand} {kk : IntKind} {i : Int}
theorem Q_ia (j : Nat) {b o o' : Nat} [u : TyU P t (.array m el)] [v : TyI P el sz z by_] (hx : ρ.ev x = some (.pointer (some ⟨b, o, none⟩))) (hy : ρ.ev y = some (.int kk i)) (hi : i = (j : Int)) (hj : j < m) (ho : o + j * sz = o') :
 QOp P E n ⟨dst, .indexAddr t x y, ty, pos, after, g⟩ ρ L (.pointer (some ⟨b, o', none⟩)) := fun a w ha _ => by
 obtain ⟨r, hr, hs', _⟩ := v.get
 subst hi
 have h1 : (j : Int) < (m : Int) := by omega
 simp only [execOp, ha.ev hx, ha.ev hy]
 simp [Instr.indexAt, asIntOf, run_underlying u.h, Instr.sureAddr, hj, sizeOf, typeInfo, hr, hs', addr_add, ho]
/-- A part of an array's value that is one cell. -/
theorem Q_aiS (j : Nat) {cs : Array Value} {v' : Value} {d : TypeDesc} [u : TyU P t (.array m el)] [u' : TyU P el d] [v : TyI P el sz z by_] (hx : ρ.ev x = some (.agg cs)) (hy : ρ.ev y = some (.int kk i)) (hi : i = (j : Int)) (hj : j < m) (hd : isAggD d = false) (hv : cs[j * sz]? = some v') :
 QOp P E n ⟨dst, .index t x y, ty, pos, after, g⟩ ρ L v' := fun a w ha _ => by
 obtain ⟨r, hr, hs', _⟩ := v.get
 subst hi
 have h1 : (j : Int) < (m : Int) := by omega
 simp only [execOp, ha.ev hx, ha.ev hy]
 simp [Instr.index, asIntOf, run_underlying u.h, hj, sizeOf, typeInfo, hr, hs', part, run_isAgg u'.h, hd, hv]
/-- Two values are compared. -/
class EqV (P : Program) (t : Nat) (d : Nat) (x y : Value) (b : outParam Bool) : Prop where
 h : ∀ w, (Op.equalIn d t x y).run P w = .ok b w
class EqG (P : Program) (t : Nat) : Prop where
 h : P.eqGuardType P.depth t = false
instance EqV_int (d : Nat) (k : IntKind) (a b : Int) [u : TyU P t (.int k)] : EqV P t (d + 1) (.int k a) (.int k b) (decide (a = b)) := ⟨fun w => by
 rw [run_equalIn_int w d t k k a b u.h]; rfl⟩
theorem Q_geql {xs ys : Array Value} {b : Bool} (hg : EqG P t) (h : EqV P t 10000 (.agg xs) (.agg ys) b) (hx : ρ.ev x = some (.agg xs)) (hy : ρ.ev y = some (.agg ys)) : QOp P E n ⟨dst, .binOp .eql t x y t', ty, pos, after, g⟩ ρ L (.bool b) := fun c w ha _ =>
 run_binOp c w ha hx hy (run_eqGuard_agg w .eql t x y xs ys hg.h) (by rw [run_eql_struct, h.h w]; rfl)
theorem Q_gneq {xs ys : Array Value} {b : Bool} (hg : EqG P t) (h : EqV P t 10000 (.agg xs) (.agg ys) b) (hx : ρ.ev x = some (.agg xs)) (hy : ρ.ev y = some (.agg ys)) : QOp P E n ⟨dst, .binOp .neq t x y t', ty, pos, after, g⟩ ρ L (.bool (!b)) := fun c w ha _ =>
 run_binOp c w ha hx hy (run_eqGuard_agg w .neq t x y xs ys hg.h) (by rw [run_neq_struct, h.h w]; rfl)
end
section
variable {α : Type} {τ : Ty α} {P : Program} {E : World} {n : Nat} {ρ : Env} {L : List HProp} {dst : Option Tmp} {ty : TypeId} {pos : String} {after : Array Edge} {g : Option (Nat × Bool)}
/-- A slice of values, its parts as they stand. -/
theorem O_litP {K : Value → List HProp → Prop} {t sz by_ : Nat} {z : Value} {ps : List (Nat × Operand)} {m : Nat} {vs : List Value} (l : List α) [u : TyU P t (.slice τ.e)] [v : TyI P τ.e sz z by_] (hp : ((ps.map (·.2)).zipIdx.map fun (x, i) => (i, x)) = ps) (hx : ρ.evs (ps.map (·.2)) = some vs) (hm : m = vs.length) (hsz : sz = τ.sz) (hz : z.cells.size = sz)
 (hl : vs.map (fun v => v.cells.toList) = l.map τ.enc) (h24 : m * sz ≤ 16777216) (hK : ∀ S, K (SV.v S) (slc τ true S l :: L)) : JOp P E n ⟨dst, .buildSlice t m ps.toArray, ty, pos, after, g⟩ K ρ L := by
 have h := O_lit (P := P) (E := E) (n := n) (dst := dst) (ty := ty) (pos := pos) (after := after) (g := g) (t := t) (L := L) l hx hm hsz hz hl h24 hK
 rw [hp] at h
 exact h
end
end Go.SL
/- Structs compared. -/
set_option autoImplicit false
namespace Go.SL
section
variable {P : Program} {d t : Nat} {xs ys : Array Value}
inductive EqF (P : Program) (d : Nat) (xs ys : Array Value) : List (Nat × Nat) → Bool → Prop
 | nil : EqF P d xs ys [] true
 | cons {ty off : Nat} {fs : List (Nat × Nat)} {r' : Bool} (a b : Value) {d' : TypeDesc} {r : Bool} (u : P.underlying ty = some d') (hd : isAggD d' = false) (ha : xs[off]? = some a) (hb : ys[off]? = some b) (h : EqV P ty d a b r) (h' : EqF P d xs ys fs r') : EqF P d xs ys ((ty, off) :: fs) (r && r')
theorem EqF.run {fs : List Field} {l : List (Nat × Nat)} {b : Bool} (hl : l = fs.map fun f => (f.type, f.offset)) (hn : fs.all (fun f => decide (f.name ≠ "_")) = true) (h : EqF P d xs ys l b) (w : World) : (Op.eqFields d xs ys fs).run P w = .ok b w := by
 induction fs generalizing l b with
 | nil => subst hl; cases h; simp [Op.eqFields]
 | cons f fs ih =>
  subst hl
  rw [List.map_cons] at h
  simp only [List.all_cons, Bool.and_eq_true, decide_eq_true_eq] at hn
  cases h with
  | cons a b u hd ha hb h1 h2 =>
   have e1 : (part f.type xs f.offset).run P w = .ok a w := by simp [part, run_isAgg u, hd, ha]
   have e2 : (part f.type ys f.offset).run P w = .ok b w := by simp [part, run_isAgg u, hd, hb]
   simp only [Op.eqFields, if_pos hn.1, Sem.run_bind, e1, e2, h1.h w, Result.andThen_ok]
   split
   ·rename_i h3; simp only [Bool.not_eq_true'] at h3; rw [h3]; simp
   ·rename_i h3; simp only [Bool.not_eq_true', Bool.not_eq_false] at h3; rw [h3, Bool.true_and]; exact ih rfl hn.2 h2
end
end Go.SL
/- Structs compared, structs within. -/
set_option autoImplicit false
namespace Go.SL
section
variable {P : Program} {d t : Nat} {xs ys : Array Value}
inductive EqFs (P : Program) (d : Nat) (xs ys : Array Value) : List (Nat × Nat) → Bool → Prop
 | nil : EqFs P d xs ys [] true
 | cons {ty off : Nat} {fs : List (Nat × Nat)} {r' : Bool} (a b : Value) {r : Bool} (ha : ∀ w, (part ty xs off).run P w = .ok a w) (hb : ∀ w, (part ty ys off).run P w = .ok b w) (h : EqV P ty d a b r) (h' : EqFs P d xs ys fs r') : EqFs P d xs ys ((ty, off) :: fs) (r && r')
theorem partS {ty off : Nat} {a : Value} {d' : TypeDesc} (u : P.underlying ty = some d') (hd : isAggD d' = false) (ha : xs[off]? = some a) (w : World) : (part ty xs off).run P w = .ok a w := by
 simp [part, run_isAgg u, hd, ha]
theorem partA {ty off sz by_ : Nat} {z : Value} {vs : Array Value} {d' : TypeDesc} (u : P.underlying ty = some d') [v : TyI P ty sz z by_] (hd : isAggD d' = true) (hv : xs.extract off (off + sz) = vs) (w : World) : (part ty xs off).run P w = .ok (.agg vs) w := by
 obtain ⟨r, hr, hs', _⟩ := v.get
 simp [part, run_isAgg u, hd, sizeOf, typeInfo, hr, hs', hv]
theorem EqFs.run {fs : List Field} {l : List (Nat × Nat)} {b : Bool} (hl : l = fs.map fun f => (f.type, f.offset)) (hn : fs.all (fun f => decide (f.name ≠ "_")) = true) (h : EqFs P d xs ys l b) (w : World) : (Op.eqFields d xs ys fs).run P w = .ok b w := by
 induction fs generalizing l b with
 | nil => subst hl; cases h; simp [Op.eqFields]
 | cons f fs ih =>
  subst hl
  rw [List.map_cons] at h
  simp only [List.all_cons, Bool.and_eq_true, decide_eq_true_eq] at hn
  cases h with
  | cons a b e1 e2 h1 h2 =>
   simp only [Op.eqFields, if_pos hn.1, Sem.run_bind, e1 w, e2 w, h1.h w, Result.andThen_ok]
   split
   ·rename_i h3; simp only [Bool.not_eq_true'] at h3; rw [h3]; simp
   ·rename_i h3; simp only [Bool.not_eq_true', Bool.not_eq_false] at h3; rw [h3, Bool.true_and]; exact ih rfl hn.2 h2
theorem EqV_structs {b : Bool} (l : List (Nat × Nat)) (ht : P.underlying t = some (.struct (P.fieldsOf t))) (hp : P.stoodInHeld t = false) (hl : l = (P.fieldsOf t).toList.map fun f => (f.type, f.offset)) (hn : (P.fieldsOf t).toList.all (fun f => decide (f.name ≠ "_")) = true) (h : EqFs P d xs ys l b) :
 EqV P t (d + 1) (.agg xs) (.agg ys) b := ⟨fun w => by rw [run_equalIn_struct w d t xs ys ht hp]; exact h.run hl hn w⟩
end
end Go.SL
/- A slice's capacity; a copy; an append of zeros; what an insertion asks of two slices. -/
set_option autoImplicit false
namespace Go.SL
section
variable {α : Type} {τ : Ty α} {P : Program} {E : World} {n : Nat} {ρ : Env} {L : List HProp} {dst : Option Tmp} {ty : TypeId} {pos : String} {after : Array Edge} {g : Option (Nat × Bool)}
end
end Go.SL
/- Arrays: cut into slices, copied into, cleared; read as slices. -/
set_option autoImplicit false
namespace Go.SL
def bnd (ρ : Env) (x : Option Operand) (d v : Nat) : Prop := match x with
 | none => v = d
 | some a => ∃ k, ρ.ev a = some (.int k (v : Int))
section
variable {α : Type} {τ : Ty α} {P : Program} {E : World} {n : Nat} {ρ : Env} {L : List HProp} {dst : Option Tmp} {ty : TypeId} {pos : String} {after : Array Edge} {g : Option (Nat × Bool)}
theorem run_sliceBound {a : Operand} {c : Act} {k : IntKind} {v y : Nat} {code : BoundsCode} (ha : Agrees c n ρ) (h : ρ.ev a = some (.int k (v : Int))) (hv : v ≤ y) (w : World) : (Instr.sliceBound (c.eval a) y code).run P w = .ok v w := by
 rw [ha.ev h]
 simp [Instr.sliceBound, asIntOf, hv]
/-- a[lo:hi] of an array's pointer. -/
theorem Q_slA (lo hi o' : Nat) {t m el sz by_ b o : Nat} {z : Value} {x : Operand} {low high : Option Operand} [u : TyU P t (.array m el)] [v : TyI P el sz z by_] (hx : ρ.ev x = some (.pointer (some ⟨b, o, none⟩)))
 (hl : bnd ρ low 0 lo) (hh : bnd ρ high m hi) (h1 : lo ≤ hi) (h2 : hi ≤ m) (ho : (if m = lo then o else o + lo * sz) = o') : QOp P E n ⟨dst, .slice t x low high none, ty, pos, after, g⟩ ρ L (.slice (some ⟨b, o', none⟩) (hi - lo) (m - lo)) := fun c w ha hs => by
 obtain ⟨r, hr, hrs, hrz, hrb⟩ := v.get
 have e : (Instr.sliceAt t (c.eval x) (low.map c.eval) (high.map c.eval) ((none : Option Operand).map c.eval)).run P w = .ok (.slice (some ⟨b, o', none⟩) (hi - lo) (m - lo)) w := by
  rw [ha.ev hx]
  have hb : (Instr.sliceBounds false m m (low.map c.eval) (high.map c.eval) none).run P w = .ok (lo, hi, m) w := by
   unfold Instr.sliceBounds
   cases low with
   | none =>
    have hl' : lo = 0 := hl
    subst hl'
    cases high with
    | none => have hh' : hi = m := hh; subst hh'; simp
    | some q => obtain ⟨k, hk⟩ := hh; simp [run_sliceBound ha hk h2]
   | some p =>
    obtain ⟨k, hk⟩ := hl
    cases high with
    | none => have hh' : hi = m := hh; subst hh'; simp [run_sliceBound ha hk h1]
    | some q => obtain ⟨k', hk'⟩ := hh; simp [run_sliceBound ha hk h1, run_sliceBound ha hk' h2]
  have ea : (if m = lo then (⟨b, o, none⟩ : Addr) else (⟨b, o, none⟩ : Addr).add (lo * sz)) = ⟨b, o', none⟩ := by
   rw [← ho]; split <;> simp [addr_add]
  unfold Instr.sliceAt
  simp only [Sem.run_bind, run_underlying u.h, Result.andThen_ok, Instr.sureAddr, Sem.run_pure, Option.map_none, hb, sizeOf, typeInfo, run_program, hr, hrs, ea]
 simp only [execOp, Sem.run_bind, e, Result.andThen_ok, Sem.run_pure]
/-- An array, read as a slice. -/
theorem Sat.rdC {w : World} (hs : Sat E w L) (i : Nat) {b t c o : Nat} {cs : List Value} {m : List α} (r : List Value) (hi : L[i]? = some (cel b cs t)) (hm : cs.drop o = τ.flat m ++ r) (hc : m.length ≤ c) : Rd τ w ⟨some ⟨b, o, none⟩, m.length, c⟩ m :=
 ⟨rfl, hc, .inr ⟨_, rfl, fun j u hu => by
  rw [addr_add]
  refine hs.cel_cell hi _ u ?_
  rw [← List.getElem?_drop, hm, List.getElem?_append_left (List.getElem?_eq_some_iff.1 hu).1]
  exact hu⟩⟩
theorem run_copyC {w : World} (hs : Sat E w L) (i : Nat) {b o t tb el sz by_ k N c tt ty : Nat} {z : Value} {cs ms cs' : List Value} {src : Value} [u : TyU P t (.slice el)] [v : TyI P el sz z by_] (hi : L[i]? = some (cel b cs tb))
 (hlen : (Builtin.lenOf src).run P w = .ok k w) (hfc : (Builtin.firstCells sz (Nat.min k N) src).run P w = .ok ms.toArray w) (hl : o + ms.length ≤ cs.length) (h1 : ∀ v ∈ ms, v.oneCell' = true) (hcs : cs.take o ++ ms ++ cs.drop (o + ms.length) = cs') :
 ∃ w', (Builtin.copy_ #[t, tt] ty #[.slice (some ⟨b, o, none⟩) N c, src]).run P w = .ok (.int .i64 ((Nat.min k N : Nat) : Int)) w' ∧ Sat E w' (L.set i (cel b cs' tb)) := by
 obtain ⟨r, hr, hrs, hrz, hrb⟩ := v.get
 subst hcs
 obtain ⟨fr, hb, hf, hE⟩ := hs.cel_at hi
 obtain ⟨w', hw, ht⟩ := run_storeCells (P := P) b tb fr ms o 0 cs w hb hf (by omega) h1
 refine ⟨w', ?_, ?_⟩
 ·have hw' : (storeCells (⟨b, o, none⟩ : Addr) ms).run P w = .ok () w' := hw
  have hfc' : (Builtin.firstCells sz (min k N) src).run P w = .ok ms.toArray w := hfc
  simp [Builtin.copy_, run_underlying u.h, sizeOf, typeInfo, hr, hrs, hlen, goInt, Nat.min_def]
  simp [Nat.min_def] at hfc'
  try (rw [hfc']; simp [hw'])
 ·refine hs.turn_at hi (o := .cells (cs.take o ++ ms ++ cs.drop (o + ms.length)).toArray tb fr) (fun p ⟨fr', hp, hf'⟩ hw' => ⟨⟨_, hp⟩, ?_⟩) (by simpa using ht)
  refine ⟨fr, by simp, ?_⟩
  have : (cs.take o ++ ms ++ cs.drop (o + ms.length)).length = cs.length := by simp; omega
  rw [this]; exact hf
/-- copy(a[o:], s): a slice's values into an array. -/
theorem O_copyC (i : Nat) {K : Value → List HProp → Prop} {t t' sz by_ b o tb N c q : Nat} {z : Value} {x y : Operand} {T : SV} {cs cs' : List Value} (m : List α) [u : TyU P t (.slice τ.e)] [v : TyI P τ.e sz z by_] (hi : L[i]? = some (cel b cs tb))
 (hT : ∀ w, Sat E w L → Rd τ w ⟨T.a, m.length, T.c⟩ m) (hx : ρ.ev x = some (.slice (some ⟨b, o, none⟩) N c)) (hy : ρ.ev y = some T.v) (hsz : sz = τ.sz) (hmin : min T.n N = m.length) (hq : m.length = q) (hl : o + q * τ.sz ≤ cs.length) (hcs : cs.take o ++ τ.flat m ++ cs.drop (o + q * τ.sz) = cs')
 (hK : K (.int .i64 (q : Int)) (L.set i (cel b cs' tb))) : JOp P E n ⟨dst, .call ⟨.builtin .copy, #[x, y], #[t, t']⟩, ty, pos, after, g⟩ K ρ L := fun a w ha hs next Q hn => by
 have hR := hT w hs
 have hfl := τ.flat_length m
 subst hq
 have hfc : (Builtin.firstCells sz m.length T.v).run P w = .ok (τ.flat m).toArray w := by
  rcases hR.cells with h0 | ⟨b, hb, hc⟩
  ·have hl0 : m.length = 0 := by
    rw [h0] at hfl
    have hp := τ.pos
    rcases Nat.eq_zero_or_pos m.length with h | h
    ·exact h
    ·have := Nat.mul_le_mul_right τ.sz h; simp only [List.length_nil] at *; omega
   rw [h0, hl0]
   cases hS : T.a <;> simp [SV.v, hS, Builtin.firstCells, loadCells, loadCellsFrom]
  ·simp only at hb
   simp only [SV.v, hb, Builtin.firstCells]
   exact run_cells b (τ.flat m) (fun j u hu => hc j u hu) _ (by rw [τ.flat_length, hsz])
 have hm' : Nat.min T.n N = m.length := hmin
 obtain ⟨w', h1, h2⟩ := run_copyC (P := P) (tt := t') (ty := ty) (c := c) (N := N) (k := T.n) (src := T.v) (ms := τ.flat m) (cs' := cs') (t := t) (sz := sz) hs i hi (by simp [Builtin.lenOf]) (by rw [hm']; exact hfc) (by rw [hfl]; exact hl) (τ.flat_one m) (by rw [hfl]; exact hcs)
 rw [hm'] at h1
 unfold Oper.wp
 simp only [execOp, resolve]
 have e1 : (Array.map a.eval #[x, y]) = #[.slice (some ⟨b, o, none⟩) N c, T.v] := by simp [ha.ev hx, ha.ev hy]
 simp only [run_bind_pure, invoke, e1, builtin]
 simp only [Sem.run_bind, h1, Result.andThen_ok, Sem.run_pure]
 exact hn _ _ w' hK h2
/-- copy(a[o:], s): a text's bytes into an array. -/
theorem O_copyS (i : Nat) {K : Value → List HProp → Prop} {t t' el sz by_ b o tb N c q : Nat} {z : Value} {x y : Operand} {s : List UInt8} {cs cs' : List Value} [u : TyU P t (.slice el)] [v : TyI P el sz z by_] (hi : L[i]? = some (cel b cs tb))
 (hx : ρ.ev x = some (.slice (some ⟨b, o, none⟩) N c)) (hy : ρ.ev y = some (str s)) (hq : min s.length N = q) (hl : o + q ≤ cs.length) (hcs : cs.take o ++ (s.take q).map (fun b : UInt8 => Value.int .u8 (b.toNat : Int)) ++ cs.drop (o + q) = cs')
 (hK : K (.int .i64 (q : Int)) (L.set i (cel b cs' tb))) : JOp P E n ⟨dst, .call ⟨.builtin .copy, #[x, y], #[t, t']⟩, ty, pos, after, g⟩ K ρ L := fun a w ha hs next Q hn => by
 have hq' : Nat.min s.length N = q := hq
 have hle : q ≤ s.length := by omega
 have hlen : ((s.take q).map (fun b : UInt8 => Value.int .u8 (b.toNat : Int))).length = q := by simp; omega
 obtain ⟨w', h1, h2⟩ := run_copyC (P := P) (tt := t') (ty := ty) (c := c) (N := N) (k := s.length) (src := str s) (cs' := cs') (ms := (s.take q).map (fun b : UInt8 => Value.int .u8 (b.toNat : Int))) (t := t) (sz := sz) hs i hi (by simp [Builtin.lenOf, size_str])
  (by
   rw [hq']
   have e : (⟨s.toArray⟩ : ByteArray).extract 0 q = ⟨(s.take q).toArray⟩ := by rw [str_extract]; simp
   simp only [Builtin.firstCells, e]
   simp) (by rw [hlen]; exact hl) (by intro v hv; obtain ⟨b, _, rfl⟩ := List.mem_map.1 hv; rfl) (by rw [hlen]; exact hcs)
 rw [hq'] at h1
 unfold Oper.wp
 simp only [execOp, resolve]
 have e1 : (Array.map a.eval #[x, y]) = #[.slice (some ⟨b, o, none⟩) N c, str s] := by simp [ha.ev hx, ha.ev hy]
 simp only [run_bind_pure, invoke, e1, builtin]
 simp only [Sem.run_bind, h1, Result.andThen_ok, Sem.run_pure]
 exact hn _ _ w' hK h2
end
end Go.SL
/- A scope that is gone through without a jump. -/
set_option autoImplicit false
namespace Go.SL
def scopeQ (Q : Post) : Post
 | .goto _, _, _ => False
 | e, ρ, L => Q e ρ L
section
variable {P : Program} {E : World} {n : Nat} {Q : Post} {ρ : Env} {L : List HProp} {c : Code}
theorem scopeQ_noP (h : ∀ c ρ L, ¬ Q (.panic c) ρ L) : ∀ d ρ L, ¬ scopeQ Q (.panic d) ρ L := fun d ρ L h' => h d ρ L h'
end
end Go.SL
/- Short words for the steps that a walk takes most often. -/
set_option autoImplicit false
namespace Go.SL
section
variable {P : Program} {E : World} {n : Nat} {Q : Post} {ρ : Env} {L H : List HProp} {o : Oper} {all rest : List Oper} {c d : Code}
theorem Lq {d : Tmp} {v : Value} (hq : QOp P E n o ρ L v) (h : JL P E n all rest Q ((d, v) :: ρ) L) (hd : o.dst = some d := by exact rfl) (hn : Nat.blt d n = true := by exact rfl) (hg : guardOk all ρ o true = true := by exact rfl) : JL P E n all (o :: rest) Q ρ L := L_q hq hd hn hg h
theorem Sq {quiet : List Nat} {rest : Sched} {i : Nat} {d : Tmp} {v : Value} (hH : Ent L H) (ho : all[i]? = some o) (hq : QOp P E n o ρ H v) (h : JS P E n all quiet Q rest H ((d, v) :: ρ) L) (hd : o.dst = some d := by exact rfl) (hn : Nat.blt d n = true := by exact rfl) (hg : guardOk all ρ o true = true := by exact rfl) : JS P E n all quiet Q (.quiet i rest) H ρ L := S_q hH ho hq hd hn hg h
theorem Ln (h : J P E n c Q ρ L) : JL P E n all [] (seqQ P E n c Q) ρ L := JL_nil (seqQ_normal h)
theorem Sr {id : Nat} {l : List Oper} (h : JL P E n l l (seqQ P E n d Q) ρ L) : J P E n (.seq (.region id l.toArray false) d) Q ρ L := J_seq (J_region h)
theorem DL {id : Nat} {l : List Oper} (quiet : List Nat) (sched : Sched) (hm : P.follows .mixedOrders = true) (h : JS P E n l quiet Q sched L ρ L) (hsel : Region.noSelect l.toArray = true := by kernel_rfl) (ho : okSched l.toArray quiet l.toArray.size sched (Array.replicate l.toArray.size false) = true := by kernel_rfl)
    (hQ : ∀ c ρ L, ¬ Q (.panic c) ρ L := by repeat (first | exact retQ_noP | refine seqQ_noP ?_ | refine blockQ_noP ?_ | refine loopQ_noP ?_ | refine scopeQ_noP ?_ | (intro _ _ _ h; cases h.1))) : J P E n (.region id l.toArray true) Q ρ L := J_drawL quiet sched hm hsel ho hQ h
theorem DH {id : Nat} {l : List Oper} (idx : List Nat) (quiet : List Nat) (sched : Sched) (hm : P.follows .mixedOrders = true) [NormL (pick idx L) H] (h : JS P E n l quiet Q sched H ρ L) (hsel : Region.noSelect l.toArray = true := by kernel_rfl) (ho : okSched l.toArray quiet l.toArray.size sched (Array.replicate l.toArray.size false) = true := by kernel_rfl)
    (hQ : ∀ c ρ L, ¬ Q (.panic c) ρ L := by repeat (first | exact retQ_noP | refine seqQ_noP ?_ | refine blockQ_noP ?_ | refine loopQ_noP ?_ | refine scopeQ_noP ?_ | (intro _ _ _ h; cases h.1))) : J P E n (.region id l.toArray true) Q ρ L := J_drawH idx quiet sched hm hsel ho hQ h
end
end Go.SL
