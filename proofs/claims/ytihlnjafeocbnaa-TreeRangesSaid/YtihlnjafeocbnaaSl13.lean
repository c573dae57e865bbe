/- Arrays. -/
import Derived.Laws.StructEq
import Derived.Test.YtihlnjafeocbnaaSl12
set_option autoImplicit false
namespace Go.SL
section
variable {P : Program} {E : World} {n : Nat} {ρ : Env} {L : List HProp} {dst : Option Tmp} {ty : TypeId} {pos : String} {after : Array Edge} {g : Option (Nat × Bool)} {t t' m el sz by_ : Nat} {z : Value} {x y : Operand} {kk : IntKind} {i : Int}
theorem Q_ia (j : Nat) {b o o' : Nat} [u : TyU P t (.array m el)] [v : TyI P el sz z by_] (hx : ρ.ev x = some (.pointer (some ⟨b, o, none⟩))) (hy : ρ.ev y = some (.int kk i)) (hi : i = (j : Int)) (hj : j < m) (ho : o + j * sz = o') :
    QOp P E n ⟨dst, .indexAddr t x y, ty, pos, after, g⟩ ρ L (.pointer (some ⟨b, o', none⟩)) := fun a w ha _ => by
  obtain ⟨r, hr, hs', _⟩ := v.get
  subst hi
  have h1 : (j : Int) < (m : Int) := by omega
  simp only [execOp, ha.ev hx, ha.ev hy]
  simp [Instr.indexAt, asIntOf, run_underlying u.h, Instr.sureAddr, h1, hj, sizeOf, typeInfo, hr, hs', addr_add, ho]
/-- A part of an array's value that is one cell. -/
theorem Q_aiS (j : Nat) {cs : Array Value} {v' : Value} {d : TypeDesc} [u : TyU P t (.array m el)] [u' : TyU P el d] [v : TyI P el sz z by_] (hx : ρ.ev x = some (.agg cs)) (hy : ρ.ev y = some (.int kk i)) (hi : i = (j : Int)) (hj : j < m) (hd : isAggD d = false) (hv : cs[j * sz]? = some v') :
    QOp P E n ⟨dst, .index t x y, ty, pos, after, g⟩ ρ L v' := fun a w ha _ => by
  obtain ⟨r, hr, hs', _⟩ := v.get
  subst hi
  have h1 : (j : Int) < (m : Int) := by omega
  simp only [execOp, ha.ev hx, ha.ev hy]
  simp [Instr.index, asIntOf, run_underlying u.h, h1, hj, sizeOf, typeInfo, hr, hs', part, run_isAgg u'.h, hd, hv]
/-- A part of an array's value that is a struct. -/
theorem Q_aiA (j : Nat) {cs : Array Value} {vs : Array Value} {d : TypeDesc} [u : TyU P t (.array m el)] [u' : TyU P el d] [v : TyI P el sz z by_] (hx : ρ.ev x = some (.agg cs)) (hy : ρ.ev y = some (.int kk i)) (hi : i = (j : Int)) (hj : j < m) (hd : isAggD d = true) (hv : cs.extract (j * sz) (j * sz + sz) = vs) :
    QOp P E n ⟨dst, .index t x y, ty, pos, after, g⟩ ρ L (.agg vs) := fun a w ha _ => by
  obtain ⟨r, hr, hs', _⟩ := v.get
  subst hi
  have h1 : (j : Int) < (m : Int) := by omega
  simp only [execOp, ha.ev hx, ha.ev hy]
  simp [Instr.index, asIntOf, run_underlying u.h, h1, hj, sizeOf, typeInfo, hr, hs', part, run_isAgg u'.h, hd, hv]
/-- Two values are compared. -/
class EqV (P : Program) (t : Nat) (d : Nat) (x y : Value) (b : outParam Bool) : Prop where
  h : ∀ w, (Op.equalIn d t x y).run P w = .ok b w
class EqG (P : Program) (t : Nat) : Prop where
  h : P.eqGuardType P.depth t = false
instance EqV_int (d : Nat) (k : IntKind) (a b : Int) [u : TyU P t (.int k)] : EqV P t (d + 1) (.int k a) (.int k b) (decide (a = b)) := ⟨fun w => by
  rw [run_equalIn_int w d t k k a b u.h]; rfl⟩
theorem EqV_str (d : Nat) (a b : List UInt8) [u : TyU P t .string] : EqV P t (d + 1) (str a) (str b) (decide (a = b)) := ⟨fun w => by
  rw [str, str, run_equalIn_string w d t _ _ u.h, byteArray_toList, byteArray_toList]
  by_cases h : a = b <;> simp [h]⟩
theorem EqV_arr3 {k : IntKind} (a b c a' b' c' : Int) [u : TyU P t (.array 3 el)] [u' : TyU P el (.int k)] [v : TyI P el 1 z by_] (d : Nat) :
    EqV P t (d + 2) (.agg #[.int k a, .int k b, .int k c]) (.agg #[.int k a', .int k b', .int k c']) (decide (a = a' ∧ b = b' ∧ c = c')) := ⟨fun w => by
  obtain ⟨r, hr, hs', _⟩ := v.get
  have e : ∀ (n : Nat) (x y : Int) , (Op.equalIn (d + 1) el (.int k x) (.int k y)).run P w = .ok (x == y) w := fun n x y => run_equalIn_int w d el k k x y u'.h
  have hr3 : (Std.Legacy.Range.mk 0 3 1 (by decide) : Std.Legacy.Range) = [0:3] := rfl
  rw [Op.equalIn]
  simp only [Sem.run_bind, run_underlying u.h, Result.andThen_ok, sizeOf, typeInfo, run_program, hr, Sem.run_pure, hs']
  simp only [Std.Legacy.Range.forIn_eq_forIn_range', Std.Legacy.Range.size]
  simp [List.range', part, run_isAgg u'.h, isAggD, e 0]
  by_cases h1 : a = a' <;> by_cases h2 : b = b' <;> by_cases h3 : c = c' <;> simp [h1, h2, h3]⟩
theorem Q_geql {xs ys : Array Value} {b : Bool} (hg : EqG P t) (h : EqV P t 10000 (.agg xs) (.agg ys) b) (hx : ρ.ev x = some (.agg xs)) (hy : ρ.ev y = some (.agg ys)) : QOp P E n ⟨dst, .binOp .eql t x y t', ty, pos, after, g⟩ ρ L (.bool b) := fun c w ha _ =>
  run_binOp c w ha hx hy (run_eqGuard_agg w .eql t x y xs ys hg.h) (by rw [run_eql_struct, h.h w]; rfl)
theorem Q_gneq {xs ys : Array Value} {b : Bool} (hg : EqG P t) (h : EqV P t 10000 (.agg xs) (.agg ys) b) (hx : ρ.ev x = some (.agg xs)) (hy : ρ.ev y = some (.agg ys)) : QOp P E n ⟨dst, .binOp .neq t x y t', ty, pos, after, g⟩ ρ L (.bool (!b)) := fun c w ha _ =>
  run_binOp c w ha hx hy (run_eqGuard_agg w .neq t x y xs ys hg.h) (by rw [run_neq_struct, h.h w]; rfl)
/-- The parts of an array. -/
theorem Places.arr3 {k : IntKind} [u : TyU P t (.array 3 el)] [v : TyI P el 1 z by_] {z' : Value} {by' : Nat} [v' : TyI P t 3 z' by'] {zero : List Value} (hz : z'.cells = zero.toArray) : Places P t [(0, 1), (1, 1), (2, 1)] zero := ⟨fun w parts cs h => by
  obtain ⟨i, hi, _, hz', _⟩ := v'.get
  obtain ⟨r, hr, hs', _⟩ := v.get
  have key : ∀ (l : List (Nat × Value)) (c0 c1 : Array Value), Instr.fill (fun x => ([(0, 1), (1, 1), (2, 1)] : List (Nat × Nat))[x]?) c0 l = some c1 → Instr.fill (fun i => some (i, 1)) c0 l = some c1 := by
    intro l
    induction l with
    | nil => intro c0 c1 h; exact h
    | cons p l ih =>
      intro c0 c1 h
      obtain ⟨i, v⟩ := p
      match i with
      | 0 => simp only [Instr.fill] at h ⊢; simp at h ⊢; exact ⟨h.1, ih _ _ h.2⟩
      | 1 => simp only [Instr.fill] at h ⊢; simp at h ⊢; exact ⟨h.1, ih _ _ h.2⟩
      | 2 => simp only [Instr.fill] at h ⊢; simp at h ⊢; exact ⟨h.1, ih _ _ h.2⟩
      | j + 3 => simp [Instr.fill] at h
  simp only [Instr.build, Sem.run_bind, zeroValue, typeInfo, run_program, Result.andThen_ok, hi, hz', Sem.run_pure, run_underlying u.h, sizeOf, hr, hs', hz, Nat.mul_one, key _ _ _ (by simpa using h)]⟩
end
section
variable {α : Type} {τ : Ty α} {P : Program} {E : World} {n : Nat} {ρ : Env} {L : List HProp} {dst : Option Tmp} {ty : TypeId} {pos : String} {after : Array Edge} {g : Option (Nat × Bool)}
/-- A slice of values, its parts as they stand. -/
theorem O_litP {K : Value → List HProp → Prop} {t sz by_ : Nat} {z : Value} {ps : List (Nat × Operand)} {m : Nat} {vs : List Value} (l : List α) [u : TyU P t (.slice τ.e)] [v : TyI P τ.e sz z by_] (hp : ((ps.map (·.2)).zipIdx.map fun (x, i) => (i, x)) = ps) (hx : ρ.evs (ps.map (·.2)) = some vs) (hm : m = vs.length) (hsz : sz = τ.sz) (hz : z.cells.size = sz)
    (hl : vs.map (fun v => v.cells.toList) = l.map τ.enc) (h24 : m * sz ≤ 16777216) (hK : ∀ S, K (SV.v S) (slc τ true S l :: L)) : JOp P E n ⟨dst, .buildSlice t m ps.toArray, ty, pos, after, g⟩ K ρ L := by
  have h := O_lit (P := P) (E := E) (n := n) (dst := dst) (ty := ty) (pos := pos) (after := after) (g := g) (t := t) (L := L) l hx hm hsz hz hl h24 hK
  rw [hp] at h
  exact h
end
end Go.SL
