/- Part 6 of the texts below the row: Sl11, Sl12, Sl13, Sl16, Sl18, Sl17, Sl21. -/
import Derived.Laws.Strings3
import Derived.Laws.DeepStrings4
import Derived.Laws.StructEq
import Derived.Scope
import Derived.Lib.Overlaps
import Derived.Laws.Externs
import Derived.Test.YtkglhackgghcfaaGreatM5
/- Pieces of strings. -/
set_option autoImplicit false
namespace Go.SL
theorem str_extract (s : List UInt8) (lo hi : Nat) : (⟨s.toArray⟩ : ByteArray).extract lo hi = ⟨((s.take hi).drop lo).toArray⟩ := by
  apply ByteArray.ext
  rw [ByteArray.data_extract, List.extract_toArray, List.extract_eq_take_drop, List.drop_take]
theorem str_size (s : List UInt8) : (⟨s.toArray⟩ : ByteArray).size = s.length := rfl
section
variable {P : Program} {E : World} {n : Nat} {ρ : Env} {L : List HProp} {dst : Option Tmp} {ty : TypeId} {pos : String} {after : Array Edge} {g : Option (Nat × Bool)} {t : Nat} {x a b : Operand} {s : List UInt8} {k k' : IntKind} {i j : Int}
theorem Q_ssLH (lo hi : Nat) [u : TyU P t .string] (hx : ρ.ev x = some (str s)) (ha : ρ.ev a = some (.int k i)) (hb : ρ.ev b = some (.int k' j)) (hi' : i = (lo : Int)) (hj : j = (hi : Int)) (h1 : lo ≤ hi) (h2 : hi ≤ s.length) :
    QOp P E n ⟨dst, .slice t x (some a) (some b) none, ty, pos, after, g⟩ ρ L (str ((s.take hi).drop lo)) := fun c w hc _ => by
  subst hi' hj
  simp only [execOp, hc.ev hx, Option.map_some, hc.ev ha, hc.ev hb, Option.map_none]
  rw [Sem.run_bind, run_sliceAt_string (h := u.h), str, run_slice_string_if w t ⟨s.toArray⟩ k k' lo hi u.h, if_pos ⟨by omega, by rw [str_size]; omega⟩, if_pos ⟨by omega, by omega⟩, Int.toNat_natCast, Int.toNat_natCast, str_extract]; rfl
theorem Q_ssH (hi : Nat) [u : TyU P t .string] (hx : ρ.ev x = some (str s)) (hb : ρ.ev b = some (.int k' j)) (hj : j = (hi : Int)) (h2 : hi ≤ s.length) :
    QOp P E n ⟨dst, .slice t x none (some b) none, ty, pos, after, g⟩ ρ L (str (s.take hi)) := fun c w hc _ => by
  subst hj
  simp only [execOp, hc.ev hx, Option.map_some, hc.ev hb, Option.map_none]
  rw [Sem.run_bind, run_sliceAt_string (h := u.h), str, run_slice_string_to_if w t ⟨s.toArray⟩ k' hi u.h, if_pos ⟨by omega, by rw [str_size]; omega⟩, Int.toNat_natCast, str_extract, List.drop_zero]; rfl
theorem Q_ssL (lo : Nat) [u : TyU P t .string] (hx : ρ.ev x = some (str s)) (ha : ρ.ev a = some (.int k i)) (hi : i = (lo : Int)) (h2 : lo ≤ s.length) :
    QOp P E n ⟨dst, .slice t x (some a) none none, ty, pos, after, g⟩ ρ L (str (s.drop lo)) := fun c w hc _ => by
  subst hi
  simp only [execOp, hc.ev hx, Option.map_some, hc.ev ha, Option.map_none]
  rw [Sem.run_bind, run_sliceAt_string (h := u.h), str, run_slice_string_from_if w t ⟨s.toArray⟩ k lo u.h, if_pos ⟨by omega, by rw [str_size]; omega⟩, Int.toNat_natCast, str_extract, str_size, List.take_length]; rfl
end
end Go.SL
/- Unsigned numbers, as natural ones. -/
set_option autoImplicit false
namespace Go.SL
/-- An unsigned kind. -/
class Uns (k : IntKind) : Prop where
  h : k.signed = false
instance : Uns .u8 := ⟨rfl⟩
instance : Uns .u32 := ⟨rfl⟩
instance : Uns .u64 := ⟨rfl⟩
theorem wrapN (k : IntKind) [u : Uns k] (m : Nat) : k.wrap (m : Int) = ((m % 2 ^ k.bits : Nat) : Int) := by
  have h := u.h
  simp only [IntKind.wrap, h]
  simp [BitVec.ofInt_natCast]
theorem wrap_lt (k : IntKind) [Uns k] (m : Nat) (h : m < 2 ^ k.bits) : k.wrap (m : Int) = (m : Int) := by rw [wrapN, Nat.mod_eq_of_lt h]
section
variable {P : Program} {E : World} {n : Nat} {ρ : Env} {L : List HProp} {dst : Option Tmp} {ty : TypeId} {pos : String} {after : Array Edge} {g : Option (Nat × Bool)} {t t' : Nat} {x y : Operand} {k k' : IntKind} [Uns k] {za zb : Int}
theorem Q_andN (a b : Nat) (hx : ρ.ev x = some (.int k za)) (hy : ρ.ev y = some (.int k zb)) (ha : za = (a : Int)) (hb : zb = (b : Int)) (h1 : a < 2 ^ k.bits) (h2 : b < 2 ^ k.bits) :
    QOp P E n ⟨dst, .binOp .and t x y t', ty, pos, after, g⟩ ρ L (.int k ((a &&& b : Nat) : Int)) := by
  subst ha hb
  refine Q_and hx hy ?_
  rw [BitVec.ofInt_natCast, BitVec.ofInt_natCast, BitVec.toNat_and, BitVec.toNat_ofNat, BitVec.toNat_ofNat, Nat.mod_eq_of_lt h1, Nat.mod_eq_of_lt h2]
  exact wrap_lt k _ (Nat.lt_of_le_of_lt Nat.and_le_left h1)
theorem Q_orN (a b : Nat) (hx : ρ.ev x = some (.int k za)) (hy : ρ.ev y = some (.int k zb)) (ha : za = (a : Int)) (hb : zb = (b : Int)) (h1 : a < 2 ^ k.bits) (h2 : b < 2 ^ k.bits) :
    QOp P E n ⟨dst, .binOp .or t x y t', ty, pos, after, g⟩ ρ L (.int k ((a ||| b : Nat) : Int)) := by
  subst ha hb
  refine Q_or hx hy ?_
  rw [BitVec.ofInt_natCast, BitVec.ofInt_natCast, BitVec.toNat_or, BitVec.toNat_ofNat, BitVec.toNat_ofNat, Nat.mod_eq_of_lt h1, Nat.mod_eq_of_lt h2]
  exact wrap_lt k _ (Nat.or_lt_two_pow h1 h2)
theorem Q_xorN (a b : Nat) (hx : ρ.ev x = some (.int k za)) (hy : ρ.ev y = some (.int k zb)) (ha : za = (a : Int)) (hb : zb = (b : Int)) (h1 : a < 2 ^ k.bits) (h2 : b < 2 ^ k.bits) :
    QOp P E n ⟨dst, .binOp .xor t x y t', ty, pos, after, g⟩ ρ L (.int k ((a ^^^ b : Nat) : Int)) := by
  subst ha hb
  refine Q_xor hx hy ?_
  rw [BitVec.ofInt_natCast, BitVec.ofInt_natCast, BitVec.toNat_xor, BitVec.toNat_ofNat, BitVec.toNat_ofNat, Nat.mod_eq_of_lt h1, Nat.mod_eq_of_lt h2]
  exact wrap_lt k _ (Nat.xor_lt_two_pow h1 h2)
theorem Q_addN (a b : Nat) (hx : ρ.ev x = some (.int k za)) (hy : ρ.ev y = some (.int k zb)) (ha : za = (a : Int)) (hb : zb = (b : Int)) :
    QOp P E n ⟨dst, .binOp .add t x y t', ty, pos, after, g⟩ ρ L (.int k (((a + b) % 2 ^ k.bits : Nat) : Int)) := by
  subst ha hb
  exact Q_add hx hy (by rw [← Int.natCast_add, wrapN])
theorem Q_shlN (a j : Nat) (hx : ρ.ev x = some (.int k za)) (hy : ρ.ev y = some (.int k' zb)) (ha : za = (a : Int)) (hb : zb = (j : Int)) (hj : j ≤ k.bits) :
    QOp P E n ⟨dst, .binOp .shl t x y t', ty, pos, after, g⟩ ρ L (.int k ((a * 2 ^ j % 2 ^ k.bits : Nat) : Int)) := by
  subst ha hb
  refine Q_shl hx hy (by omega) ?_
  rw [← wrapN, Int.toNat_natCast, Nat.min_eq_left hj]
  simp
theorem Q_shrN (a j : Nat) (hx : ρ.ev x = some (.int k za)) (hy : ρ.ev y = some (.int k' zb)) (ha : za = (a : Int)) (hb : zb = (j : Int)) (hj : j ≤ k.bits) :
    QOp P E n ⟨dst, .binOp .shr t x y t', ty, pos, after, g⟩ ρ L (.int k ((a / 2 ^ j : Nat) : Int)) := by
  have _ : k.signed = false := Uns.h
  subst ha hb
  refine Q_shr hx hy (by omega) ?_
  rw [Int.toNat_natCast, Nat.min_eq_left hj, Int.fdiv_eq_ediv_of_nonneg _ (by exact_mod_cast Nat.zero_le _)]
  simp
theorem Q_cvtN (a : Nat) {d : Nat} {s : TypeDesc} [u : TyU P t s] [u' : TyU P d (.int k)] (hx : ρ.ev x = some (.int k' za)) (ha : za = (a : Int)) :
    QOp P E n ⟨dst, .convert t d x, ty, pos, after, g⟩ ρ L (.int k ((a % 2 ^ k.bits : Nat) : Int)) := by
  subst ha
  exact Q_cvt hx (wrapN k a)
theorem Q_compl (a : Nat) (hx : ρ.ev x = some (.int k za)) (ha : za = (a : Int)) (h1 : a < 2 ^ k.bits) (hm : k.max = ((2 ^ k.bits - 1 : Nat) : Int)) :
    QOp P E n ⟨dst, .unOp .xor t x, ty, pos, after, g⟩ ρ L (.int k (((2 ^ k.bits - 1) ^^^ a : Nat) : Int)) := fun c w hc _ => by
  subst ha
  have u : k.signed = false := Uns.h
  have e : ((BitVec.ofInt k.bits ((2 ^ k.bits - 1 : Nat) : Int) ^^^ BitVec.ofInt k.bits (a : Int)).toNat : Int) = (((2 ^ k.bits - 1) ^^^ a : Nat) : Int) := by
    rw [BitVec.ofInt_natCast, BitVec.ofInt_natCast, BitVec.toNat_xor, BitVec.toNat_ofNat, BitVec.toNat_ofNat, Nat.mod_eq_of_lt h1, Nat.mod_eq_of_lt (by have := Nat.two_pow_pos k.bits; omega)]
  have h3 : (2 ^ k.bits - 1) ^^^ a < 2 ^ k.bits := Nat.xor_lt_two_pow (by have := Nat.two_pow_pos k.bits; omega) h1
  simp only [execOp, hc.ev hx, Op.unary, u, hm, Op.intBits, e]
  simp
  rw [Nat.mod_eq_of_lt h1, wrap_lt k _ h3]
end
end Go.SL
/- Arrays. -/
set_option autoImplicit false
namespace Go.SL
section
variable {P : Program} {E : World} {n : Nat} {ρ : Env} {L : List HProp} {dst : Option Tmp} {ty : TypeId} {pos : String} {after : Array Edge} {g : Option (Nat × Bool)} {t t' m el sz by_ : Nat} {z : Value} {x y : Operand} {kk : IntKind} {i : Int}
theorem Q_ia (j : Nat) {b o o' : Nat} [u : TyU P t (.array m el)] [v : TyI P el sz z by_] (hx : ρ.ev x = some (.pointer (some ⟨b, o, none⟩))) (hy : ρ.ev y = some (.int kk i)) (hi : i = (j : Int)) (hj : j < m) (ho : o + j * sz = o') :
    QOp P E n ⟨dst, .indexAddr t x y, ty, pos, after, g⟩ ρ L (.pointer (some ⟨b, o', none⟩)) := fun a w ha _ => by
  obtain ⟨r, hr, hs', _⟩ := v.get
  subst hi
  have h1 : (j : Int) < (m : Int) := by omega
  simp only [execOp, ha.ev hx, ha.ev hy]
  simp [Instr.indexAt, asIntOf, run_underlying u.h, Instr.sureAddr, h1, hj, sizeOf, typeInfo, hr, hs', addr_add, ho]
/-- A part of an array's value that is one cell. -/
theorem Q_aiS (j : Nat) {cs : Array Value} {v' : Value} {d : TypeDesc} [u : TyU P t (.array m el)] [u' : TyU P el d] [v : TyI P el sz z by_] (hx : ρ.ev x = some (.agg cs)) (hy : ρ.ev y = some (.int kk i)) (hi : i = (j : Int)) (hj : j < m) (hd : isAggD d = false) (hv : cs[j * sz]? = some v') :
    QOp P E n ⟨dst, .index t x y, ty, pos, after, g⟩ ρ L v' := fun a w ha _ => by
  obtain ⟨r, hr, hs', _⟩ := v.get
  subst hi
  have h1 : (j : Int) < (m : Int) := by omega
  simp only [execOp, ha.ev hx, ha.ev hy]
  simp [Instr.index, asIntOf, run_underlying u.h, h1, hj, sizeOf, typeInfo, hr, hs', part, run_isAgg u'.h, hd, hv]
/-- A part of an array's value that is a struct. -/
theorem Q_aiA (j : Nat) {cs : Array Value} {vs : Array Value} {d : TypeDesc} [u : TyU P t (.array m el)] [u' : TyU P el d] [v : TyI P el sz z by_] (hx : ρ.ev x = some (.agg cs)) (hy : ρ.ev y = some (.int kk i)) (hi : i = (j : Int)) (hj : j < m) (hd : isAggD d = true) (hv : cs.extract (j * sz) (j * sz + sz) = vs) :
    QOp P E n ⟨dst, .index t x y, ty, pos, after, g⟩ ρ L (.agg vs) := fun a w ha _ => by
  obtain ⟨r, hr, hs', _⟩ := v.get
  subst hi
  have h1 : (j : Int) < (m : Int) := by omega
  simp only [execOp, ha.ev hx, ha.ev hy]
  simp [Instr.index, asIntOf, run_underlying u.h, h1, hj, sizeOf, typeInfo, hr, hs', part, run_isAgg u'.h, hd, hv]
/-- Two values are compared. -/
class EqV (P : Program) (t : Nat) (d : Nat) (x y : Value) (b : outParam Bool) : Prop where
  h : ∀ w, (Op.equalIn d t x y).run P w = .ok b w
class EqG (P : Program) (t : Nat) : Prop where
  h : P.eqGuardType P.depth t = false
instance EqV_int (d : Nat) (k : IntKind) (a b : Int) [u : TyU P t (.int k)] : EqV P t (d + 1) (.int k a) (.int k b) (decide (a = b)) := ⟨fun w => by
  rw [run_equalIn_int w d t k k a b u.h]; rfl⟩
theorem EqV_str (d : Nat) (a b : List UInt8) [u : TyU P t .string] : EqV P t (d + 1) (str a) (str b) (decide (a = b)) := ⟨fun w => by
  rw [str, str, run_equalIn_string w d t _ _ u.h, byteArray_toList, byteArray_toList]
  by_cases h : a = b <;> simp [h]⟩
theorem EqV_arr3 {k : IntKind} (a b c a' b' c' : Int) [u : TyU P t (.array 3 el)] [u' : TyU P el (.int k)] [v : TyI P el 1 z by_] (d : Nat) :
    EqV P t (d + 2) (.agg #[.int k a, .int k b, .int k c]) (.agg #[.int k a', .int k b', .int k c']) (decide (a = a' ∧ b = b' ∧ c = c')) := ⟨fun w => by
  obtain ⟨r, hr, hs', _⟩ := v.get
  have e : ∀ (n : Nat) (x y : Int) , (Op.equalIn (d + 1) el (.int k x) (.int k y)).run P w = .ok (x == y) w := fun n x y => run_equalIn_int w d el k k x y u'.h
  have hr3 : (Std.Legacy.Range.mk 0 3 1 (by decide) : Std.Legacy.Range) = [0:3] := rfl
  rw [Op.equalIn]
  simp only [Sem.run_bind, run_underlying u.h, Result.andThen_ok, sizeOf, typeInfo, run_program, hr, Sem.run_pure, hs']
  simp only [Std.Legacy.Range.forIn_eq_forIn_range', Std.Legacy.Range.size]
  simp [List.range', part, run_isAgg u'.h, isAggD, e 0]
  by_cases h1 : a = a' <;> by_cases h2 : b = b' <;> by_cases h3 : c = c' <;> simp [h1, h2, h3]⟩
theorem Q_geql {xs ys : Array Value} {b : Bool} (hg : EqG P t) (h : EqV P t 10000 (.agg xs) (.agg ys) b) (hx : ρ.ev x = some (.agg xs)) (hy : ρ.ev y = some (.agg ys)) : QOp P E n ⟨dst, .binOp .eql t x y t', ty, pos, after, g⟩ ρ L (.bool b) := fun c w ha _ =>
  run_binOp c w ha hx hy (run_eqGuard_agg w .eql t x y xs ys hg.h) (by rw [run_eql_struct, h.h w]; rfl)
theorem Q_gneq {xs ys : Array Value} {b : Bool} (hg : EqG P t) (h : EqV P t 10000 (.agg xs) (.agg ys) b) (hx : ρ.ev x = some (.agg xs)) (hy : ρ.ev y = some (.agg ys)) : QOp P E n ⟨dst, .binOp .neq t x y t', ty, pos, after, g⟩ ρ L (.bool (!b)) := fun c w ha _ =>
  run_binOp c w ha hx hy (run_eqGuard_agg w .neq t x y xs ys hg.h) (by rw [run_neq_struct, h.h w]; rfl)
/-- The parts of an array. -/
theorem Places.arr3 {k : IntKind} [u : TyU P t (.array 3 el)] [v : TyI P el 1 z by_] {z' : Value} {by' : Nat} [v' : TyI P t 3 z' by'] {zero : List Value} (hz : z'.cells = zero.toArray) : Places P t [(0, 1), (1, 1), (2, 1)] zero := ⟨fun w parts cs h => by
  obtain ⟨i, hi, _, hz', _⟩ := v'.get
  obtain ⟨r, hr, hs', _⟩ := v.get
  have key : ∀ (l : List (Nat × Value)) (c0 c1 : Array Value), Instr.fill (fun x => ([(0, 1), (1, 1), (2, 1)] : List (Nat × Nat))[x]?) c0 l = some c1 → Instr.fill (fun i => some (i, 1)) c0 l = some c1 := by
    intro l
    induction l with
    | nil => intro c0 c1 h; exact h
    | cons p l ih =>
      intro c0 c1 h
      obtain ⟨i, v⟩ := p
      match i with
      | 0 => simp only [Instr.fill] at h ⊢; simp at h ⊢; exact ⟨h.1, ih _ _ h.2⟩
      | 1 => simp only [Instr.fill] at h ⊢; simp at h ⊢; exact ⟨h.1, ih _ _ h.2⟩
      | 2 => simp only [Instr.fill] at h ⊢; simp at h ⊢; exact ⟨h.1, ih _ _ h.2⟩
      | j + 3 => simp [Instr.fill] at h
  simp only [Instr.build, Sem.run_bind, zeroValue, typeInfo, run_program, Result.andThen_ok, hi, hz', Sem.run_pure, run_underlying u.h, sizeOf, hr, hs', hz, Nat.mul_one, key _ _ _ (by simpa using h)]⟩
end
section
variable {α : Type} {τ : Ty α} {P : Program} {E : World} {n : Nat} {ρ : Env} {L : List HProp} {dst : Option Tmp} {ty : TypeId} {pos : String} {after : Array Edge} {g : Option (Nat × Bool)}
/-- A slice of values, its parts as they stand. -/
theorem O_litP {K : Value → List HProp → Prop} {t sz by_ : Nat} {z : Value} {ps : List (Nat × Operand)} {m : Nat} {vs : List Value} (l : List α) [u : TyU P t (.slice τ.e)] [v : TyI P τ.e sz z by_] (hp : ((ps.map (·.2)).zipIdx.map fun (x, i) => (i, x)) = ps) (hx : ρ.evs (ps.map (·.2)) = some vs) (hm : m = vs.length) (hsz : sz = τ.sz) (hz : z.cells.size = sz)
    (hl : vs.map (fun v => v.cells.toList) = l.map τ.enc) (h24 : m * sz ≤ 16777216) (hK : ∀ S, K (SV.v S) (slc τ true S l :: L)) : JOp P E n ⟨dst, .buildSlice t m ps.toArray, ty, pos, after, g⟩ K ρ L := by
  have h := O_lit (P := P) (E := E) (n := n) (dst := dst) (ty := ty) (pos := pos) (after := after) (g := g) (t := t) (L := L) l hx hm hsz hz hl h24 hK
  rw [hp] at h
  exact h
end
end Go.SL
/- Many chunks as one: one taken out, one put in. -/
set_option autoImplicit false
namespace Go.SL
section
variable {E w : World}
def swap01 : Nat → Nat
  | 0 => 1
  | 1 => 0
  | i + 2 => i + 2
theorem swap01_inj {i j : Nat} (h : swap01 i = swap01 j) : i = j := by
  match i, j with
  | 0, 0 => rfl
  | 0, 1 => simp [swap01] at h
  | 0, j + 2 => simp [swap01] at h
  | 1, 0 => simp [swap01] at h
  | 1, 1 => rfl
  | 1, j + 2 => simp [swap01] at h
  | i + 2, 0 => simp [swap01] at h
  | i + 2, 1 => simp [swap01] at h
  | i + 2, j + 2 => simpa [swap01] using h
theorem swap01_get {x y : HProp} {R : List HProp} (i : Nat) : (x :: y :: R)[swap01 i]? = (y :: x :: R)[i]? := by
  match i with
  | 0 => rfl
  | 1 => rfl
  | i + 2 => rfl
theorem swap01_lt {i n : Nat} (h : i < n + 2) : swap01 i < n + 2 := by
  match i with
  | 0 => simp [swap01]
  | 1 => simp [swap01]
  | i + 2 => exact h
theorem Sat.two {A L : List HProp} {x y : HProp} (h : Sat E w (A ++ x :: y :: L)) : Sat E w (A ++ y :: x :: L) := by
  have h1 : Sat E w (x :: y :: (L ++ A)) := by simpa using Sat.rot (A := A) h
  have h2 : Sat E w (y :: x :: (L ++ A)) := by
    obtain ⟨fr, f1, f2, f3⟩ := h1.own
    refine ⟨h1.os, h1.tape, h1.output, h1.size, h1.old, fun i => fr (swap01 i), ?_, ?_, ?_⟩
    · intro i c hc
      exact f1 (swap01 i) c (by rw [swap01_get]; exact hc)
    · intro i hi
      exact f2 (swap01 i) (by simp only [List.length_cons] at hi ⊢; exact swap01_lt hi)
    · intro i j hi hj hne
      exact f3 _ _ (by simp only [List.length_cons] at hi ⊢; exact swap01_lt hi) (by simp only [List.length_cons] at hj ⊢; exact swap01_lt hj) fun h => hne (swap01_inj h)
  exact Sat.rot (A := y :: x :: L) (B := A) (by simpa using h2)
theorem Sat.perm {L L' : List HProp} (p : L.Perm L') : ∀ {A : List HProp}, Sat E w (A ++ L) → Sat E w (A ++ L') := by
  induction p with
  | nil => intro A h; exact h
  | cons x _ ih => intro A h; have := ih (A := A ++ [x]) (by simpa using h); simpa using this
  | swap x y l => intro A h; exact h.two
  | trans _ _ ih1 ih2 => intro A h; exact ih2 (ih1 h)
theorem Sat.stars_out {L R R' : List HProp} {c : HProp} (p : R.Perm (c :: R')) (h : Sat E w (stars R :: L)) : Sat E w (c :: stars R' :: L) := by
  have h1 : Sat E w (L ++ R) := Sat.unfold (A := L) (by simpa using Sat.rot (A := [stars R]) h)
  have h2 : Sat E w ((L ++ [c]) ++ R') := by have := h1.perm p; simpa using this
  have h3 : Sat E w ((L ++ [c]) ++ [stars R']) := Sat.fold h2
  have h4 : Sat E w ([c, stars R'] ++ L) := Sat.rot (A := L) (by simpa using h3)
  exact h4
theorem Sat.stars_in {L R R' : List HProp} {c : HProp} (p : (c :: R').Perm R) (h : Sat E w (c :: stars R' :: L)) : Sat E w (stars R :: L) := by
  have h1 : Sat E w ((L ++ [c]) ++ [stars R']) := by have := Sat.rot (A := [c, stars R']) (B := L) h; simpa using this
  have h2 : Sat E w ((L ++ [c]) ++ R') := Sat.unfold h1
  have h3 : Sat E w (L ++ R) := Sat.perm p (A := L) (by simpa using h2)
  have h4 : Sat E w (L ++ [stars R]) := Sat.fold h3
  exact Sat.rot (A := L) h4
theorem Ent.stars_out {L R R' : List HProp} {c : HProp} (p : R.Perm (c :: R')) : Ent (stars R :: L) (c :: stars R' :: L) := fun _ _ h => h.stars_out p
theorem Ent.stars_in {L R R' : List HProp} {c : HProp} (p : (c :: R').Perm R) : Ent (c :: stars R' :: L) (stars R :: L) := fun _ _ h => h.stars_in p
theorem Ent.stars_nil {L : List HProp} : Ent L (stars [] :: L) := fun _ _ h => h.lay fun _ => ⟨fun _ _ => none, by simp, by simp, by simp⟩
theorem Ent.stars_drop {L A B : List HProp} : Ent (stars (A ++ B) :: L) (stars B :: L) := fun E w h => by
  have h1 : Sat E w (L ++ (A ++ B)) := Sat.unfold (A := L) (by simpa using Sat.rot (A := [stars (A ++ B)]) h)
  have h2 : Sat E w (A ++ (L ++ B)) := by
    have h3 : Sat E w (B ++ (L ++ A)) := by have := Sat.rot (A := L ++ A) (B := B) (by simpa using h1); simpa using this
    have h4 : Sat E w ((B ++ L) ++ A) := by simpa using h3
    have h5 : Sat E w (A ++ (B ++ L)) := Sat.rot h4
    exact h5.perm List.perm_append_comm
  have h6 : Sat E w (L ++ B) := by
    clear h h1
    induction A with
    | nil => simpa using h2
    | cons a A ih => exact ih (Sat.head (L := []) h2 fun g _ => ⟨fun _ => g, by simp, by simp, by simp⟩)
  have h7 : Sat E w (L ++ [stars B]) := Sat.fold h6
  exact Sat.rot (A := L) h7
/-- .. of a list of things: the one behind, and one in the middle. -/
theorem Ent.last_out {α : Type} {L : List HProp} (f : α → HProp) (l : List α) (x : α) : Ent (stars ((l ++ [x]).map f) :: L) (f x :: stars (l.map f) :: L) := Ent.stars_out (by
  rw [List.map_append]; exact List.perm_append_comm)
theorem Ent.last_in {α : Type} {L : List HProp} (f : α → HProp) (l : List α) (x : α) : Ent (f x :: stars (l.map f) :: L) (stars ((l ++ [x]).map f) :: L) := Ent.stars_in (by
  rw [List.map_append]; exact List.perm_append_comm (l₁ := [f x]))
theorem Ent.mid_out {α : Type} {L : List HProp} (f : α → HProp) (l : List α) (x : α) (m : List α) : Ent (stars ((l ++ x :: m).map f) :: L) (f x :: stars ((l ++ m).map f) :: L) := Ent.stars_out (by
  rw [List.map_append, List.map_append, List.map_cons]; exact List.perm_middle)
theorem Ent.mid_in {α : Type} {L : List HProp} (f : α → HProp) (l : List α) (x : α) (m : List α) : Ent (f x :: stars ((l ++ m).map f) :: L) (stars ((l ++ x :: m).map f) :: L) := Ent.stars_in (by
  rw [List.map_append, List.map_append, List.map_cons]; exact List.perm_middle.symm)
end
end Go.SL
/- A scope that is gone through without a jump. -/
set_option autoImplicit false
namespace Go.SL
def scopeQ (Q : Post) : Post
  | .goto _, _, _ => False
  | e, ρ, L => Q e ρ L
section
variable {P : Program} {E : World} {n : Nat} {Q : Post} {ρ : Env} {L : List HProp} {c : Code}
theorem J_scope (h : J P E n c (scopeQ Q) ρ L) : J P E n (.scope c) Q ρ L := fun a w ha hs =>
  wp_scope_straight (wp_mono (h a w ha hs) fun e a' w' ⟨ρ', L', hQ, ha', hs'⟩ => by
    cases e with
    | goto l => exact hQ.elim
    | _ => exact ⟨ρ', L', hQ, ha', hs'⟩)
theorem scopeQ_normal (h : Q .normal ρ L) : scopeQ Q .normal ρ L := h
theorem scopeQ_exit {id : Nat} (h : Q (.exit id) ρ L) : scopeQ Q (.exit id) ρ L := h
theorem scopeQ_ret (h : Q .ret ρ L) : scopeQ Q .ret ρ L := h
theorem scopeQ_noP (h : ∀ c ρ L, ¬ Q (.panic c) ρ L) : ∀ d ρ L, ¬ scopeQ Q (.panic d) ρ L := fun d ρ L h' => h d ρ L h'
end
end Go.SL
/- What is done in place: an append onto a beginning, a clear behind what is there. -/
set_option autoImplicit false
namespace Go.SL
section
variable {α : Type} {τ : Ty α} {P : Program} {E : World} {n : Nat} {ρ : Env} {L : List HProp} {dst : Option Tmp} {ty : TypeId} {pos : String} {after : Array Edge} {g : Option (Nat × Bool)}
theorem Q_slLHc {t sz by_ : Nat} {z : Value} {x a b : Operand} {S : SV} {k k' : IntKind} {i j : Int} (lo hi : Nat) [u : TyU P t (.slice τ.e)] [v : TyI P τ.e sz z by_] (hx : ρ.ev x = some S.v) (ha : ρ.ev a = some (.int k i)) (hb : ρ.ev b = some (.int k' j))
    (hi' : i = (lo : Int)) (hj : j = (hi : Int)) (h1 : lo ≤ hi) (h2 : hi ≤ S.c) (hsz : sz = τ.sz) : QOp P E n ⟨dst, .slice t x (some a) (some b) none, ty, pos, after, g⟩ ρ L (S.sub τ.sz lo hi).v := fun c w hc hs => by
  obtain ⟨r, hr, hs', _⟩ := v.get
  subst hi' hj
  simp only [execOp, hc.ev hx, Option.map_some, hc.ev ha, hc.ev hb, Option.map_none]
  have e1 : (lo : Int) ≤ hi := by omega
  have e2 : (hi : Int) ≤ S.c := by omega
  simp [Instr.sliceAt, run_underlying u.h, Instr.slice, Instr.sliceBounds, run_sliceBound, e1, e2, sizeOf, typeInfo, hr, hs', hsz, SV.sub]
theorem Q_slHc {t sz by_ : Nat} {z : Value} {x b : Operand} {S : SV} {k' : IntKind} {j : Int} (hi : Nat) [u : TyU P t (.slice τ.e)] [v : TyI P τ.e sz z by_] (hx : ρ.ev x = some S.v) (hb : ρ.ev b = some (.int k' j))
    (hj : j = (hi : Int)) (h2 : hi ≤ S.c) : QOp P E n ⟨dst, .slice t x none (some b) none, ty, pos, after, g⟩ ρ L (S.sub τ.sz 0 hi).v := fun c w hc hs => by
  obtain ⟨r, hr, hs', _⟩ := v.get
  subst hj
  simp only [execOp, hc.ev hx, Option.map_some, hc.ev hb, Option.map_none]
  have e2 : (hi : Int) ≤ S.c := by omega
  simp [Instr.sliceAt, run_underlying u.h, Instr.slice, Instr.sliceBounds, run_sliceBound, e2, sizeOf, typeInfo, hr, SV.sub]
theorem Q_slLc {t sz by_ : Nat} {z : Value} {x a : Operand} {S : SV} {k : IntKind} {i : Int} (lo m : Nat) [u : TyU P t (.slice τ.e)] [v : TyI P τ.e sz z by_] (hx : ρ.ev x = some S.v) (ha : ρ.ev a = some (.int k i))
    (hi' : i = (lo : Int)) (hn : S.n = m) (h1 : lo ≤ m) (hsz : sz = τ.sz) : QOp P E n ⟨dst, .slice t x (some a) none none, ty, pos, after, g⟩ ρ L (S.sub τ.sz lo m).v := fun c w hc hs => by
  obtain ⟨r, hr, hs', _⟩ := v.get
  subst hi'
  simp only [execOp, hc.ev hx, Option.map_some, hc.ev ha, Option.map_none]
  have e1 : (lo : Int) ≤ (m : Int) := by omega
  simp [Instr.sliceAt, run_underlying u.h, Instr.slice, Instr.sliceBounds, run_sliceBound, e1, sizeOf, typeInfo, hr, hs', hsz, SV.sub, hn]
/-- s[lo:hi:max] -/
theorem Q_sl3 {t sz by_ : Nat} {z : Value} {x a b c : Operand} {S : SV} {k k' k'' : IntKind} {i j m : Int} (lo hi mx : Nat) [u : TyU P t (.slice τ.e)] [v : TyI P τ.e sz z by_] (hx : ρ.ev x = some S.v) (ha : ρ.ev a = some (.int k i)) (hb : ρ.ev b = some (.int k' j)) (hc' : ρ.ev c = some (.int k'' m))
    (hi' : i = (lo : Int)) (hj : j = (hi : Int)) (hm : m = (mx : Int)) (h1 : lo ≤ hi) (h2 : hi ≤ mx) (h3 : mx ≤ S.c) (hsz : sz = τ.sz) : QOp P E n ⟨dst, .slice t x (some a) (some b) (some c), ty, pos, after, g⟩ ρ L (.slice (if mx = lo then S.a else S.a.map (·.add (lo * τ.sz))) (hi - lo) (mx - lo)) := fun c w hc hs => by
  obtain ⟨r, hr, hs', _⟩ := v.get
  subst hi' hj hm
  simp only [execOp, hc.ev hx, Option.map_some, hc.ev ha, hc.ev hb, hc.ev hc']
  have e1 : (lo : Int) ≤ hi := by omega
  have e2 : (hi : Int) ≤ mx := by omega
  have e3 : (mx : Int) ≤ S.c := by omega
  simp [Instr.sliceAt, run_underlying u.h, Instr.slice, Instr.sliceBounds, run_sliceBound, e1, e2, e3, sizeOf, typeInfo, hr, hs', hsz]
/-- append(s[:k], t...), where there is room. -/
theorem O_appIn (i k : Nat) {K : Value → List HProp → Prop} {t t' sz by_ : Nat} {z : Value} {x y : Operand} {S T : SV} {l m : List α} [u : TyU P t (.slice τ.e)] [u' : TyU P t' (.slice τ.e)] [v : TyI P τ.e sz z by_] (hL : L[i]? = some (slc τ true S l)) (hT : ∀ w, Sat E w L → Rd τ w T m)
    (hx : ρ.ev x = some (S.sub τ.sz 0 k).v) (hy : ρ.ev y = some T.v) (hsz : sz = τ.sz) (hk : k ≤ l.length) (hroom : k + m.length ≤ S.c)
    (hK : K (SV.v ⟨(S.sub τ.sz 0 k).a, k + m.length, S.c⟩) (L.set i (slc τ true ⟨(S.sub τ.sz 0 k).a, k + m.length, S.c⟩ (l.take k ++ m)))) : JOp P E n ⟨dst, .call ⟨.builtin .append, #[x, y], #[t, t']⟩, ty, pos, after, g⟩ K ρ L := fun a w ha hs next Q hn => by
  have hR := hT w hs
  have hs2 := hs.sub_at i hL 0 k (Nat.zero_le _) hk
  have hlt : i < L.length := (List.getElem?_eq_some_iff.1 hL).1
  have hL2 : (L.set i (slc τ true (S.sub τ.sz 0 k) ((l.take k).drop 0)))[i]? = some (slc τ true (S.sub τ.sz 0 k) (l.take k)) := by rw [List.getElem?_set_self hlt]; rfl
  obtain ⟨r, hr, hrs, hrz, hrb⟩ := v.get
  have hSn : (S.sub τ.sz 0 k).n = k := by simp [SV.sub]
  have hSc : (S.sub τ.sz 0 k).c = S.c := by simp [SV.sub]
  have hlen : (Builtin.lenOf T.v).run P w = .ok m.length w := by simp [Builtin.lenOf, hR.1]
  have hfc : (Builtin.firstCells sz m.length T.v).run P w = .ok (τ.flat m).toArray w := by
    rcases hR.cells with h0 | ⟨b, hb, hc⟩
    · have hl0 : m.length = 0 := by
        have := τ.flat_length m
        rw [h0] at this
        have hp := τ.pos
        rcases Nat.eq_zero_or_pos m.length with h | h
        · exact h
        · have := Nat.mul_le_mul_right τ.sz h; simp only [List.length_nil] at *; omega
      rw [h0, hl0]
      cases hS : T.a <;> simp [SV.v, hS, Builtin.firstCells, loadCells, loadCellsFrom]
    · simp only [SV.v, hb, Builtin.firstCells]
      exact run_cells b (τ.flat m) (fun j u hu => hc j u hu) _ (by rw [τ.flat_length, hsz])
  generalize hU : S.sub τ.sz 0 k = U at *
  obtain ⟨p, ⟨hn', hcap, h⟩, hw⟩ := hs2.at hL2
  have hroom' : U.n + m.length ≤ U.c := by omega
  have key : ∃ w', (Builtin.append_ #[t, t'] ty #[U.v, T.v]).run P w = .ok (SV.v ⟨U.a, k + m.length, S.c⟩) w' ∧ Sat E w' (L.set i (slc τ true ⟨U.a, k + m.length, S.c⟩ (l.take k ++ m))) := by
    rcases h with ⟨hno, h0⟩ | ⟨_, _, hf0, _⟩ | ⟨b, o, hS, _, cs, fr, hp, hfr, hlen', hcs, hmx⟩
    rotate_left
    · cases hf0
    rotate_left
    · have hm0 : m.length = 0 := by omega
      have hk0 : k = 0 := by omega
      have hm : m = [] := List.eq_nil_of_length_eq_zero hm0
      refine ⟨w, ?_, ?_⟩
      · have hk1 : k + m.length ≤ S.c := hroom
        simp only [Builtin.append_, SV.v, hno]
        rw [hSn, hSc]
        simp [run_underlying u.h, run_underlying u'.h, sizeOf, typeInfo, hr, hrs, hlen, hk1, hfc]
      · have e : (⟨U.a, k + m.length, S.c⟩ : SV) = U := by cases U; simp at hSn hSc ⊢; omega
        rw [e, hm, List.append_nil]
        have := hs2
        simpa using this
    · have hb' := (hw b _ hp).2
      have hmul : (U.n + m.length) * τ.sz ≤ U.c * τ.sz := Nat.mul_le_mul_right _ hroom'
      rw [Nat.add_mul] at hmul
      obtain ⟨w', hst, ht1⟩ := run_storeCells (P := P) b τ.e fr (τ.flat m) (o + U.n * τ.sz) 0 cs w hb' hfr (by rw [τ.flat_length]; omega) (τ.flat_one m)
      refine ⟨w', ?_, ?_⟩
      · have hst' : (storeCells ((⟨b, o, none⟩ : Addr).add (U.n * sz)) (τ.flat m)).run P w = .ok () w' := by rw [addr_add, hsz]; exact hst
        have hk1 : k + m.length ≤ S.c := hroom
        simp only [Builtin.append_, SV.v, hS]
        rw [hSn, hSc] at *
        simp [run_underlying u.h, run_underlying u'.h, sizeOf, typeInfo, hr, hrs, hlen, hk1, hfc]
        rw [hst']
        simp
      · have hset : (L.set i (slc τ true U ((l.take k).drop 0))).set i (slc τ true ⟨U.a, k + m.length, S.c⟩ (l.take k ++ m)) = L.set i (slc τ true ⟨U.a, k + m.length, S.c⟩ (l.take k ++ m)) := by rw [List.set_set]
        rw [← hset]
        refine hs2.turn_at hL2 (fun p' ⟨_, _, hp2⟩ _ => ?_) ht1
        have hp' : ∃ o', p' b = some o' := by
          rcases hp2 with ⟨hno, _⟩ | ⟨_, _, hf0, _⟩ | ⟨b2, o2, hS2, _, cs2, fr2, hb2, _⟩
          · rw [hno] at hS; cases hS
          · cases hf0
          · rw [hS2] at hS; simp only [Option.some.injEq, Addr.mk.injEq] at hS; obtain ⟨rfl, _⟩ := hS; exact ⟨_, hb2⟩
        have hfl := τ.flat_length m
        refine ⟨hp', by simp; omega, by simp; omega, .inr (.inr ⟨b, o, hS, rfl, cs.take (o + U.n * τ.sz) ++ τ.flat m ++ cs.drop (o + U.n * τ.sz + (τ.flat m).length), fr, by simp, ?_, ?_, ?_, by rw [← hSc]; exact hmx⟩)⟩
        · have : (cs.take (o + U.n * τ.sz) ++ τ.flat m ++ cs.drop (o + U.n * τ.sz + (τ.flat m).length)).length = cs.length := by simp; omega
          rw [this]; exact hfr
        · have : (cs.take (o + U.n * τ.sz) ++ τ.flat m ++ cs.drop (o + U.n * τ.sz + (τ.flat m).length)).length = cs.length := by simp; omega
          rw [this, ← hSc]; exact hlen'
        · rw [τ.flat_append, ← hcs]
          have := splice_window cs o (U.n * τ.sz) (τ.flat m) (by omega)
          rw [hfl, ← Nat.add_mul] at this
          rw [hfl]
          rw [← hSn]
          exact this
  obtain ⟨w', hr', hs'⟩ := key
  unfold Oper.wp
  simp only [execOp, resolve]
  have e1 : (Array.map a.eval #[x, y]) = #[U.v, T.v] := by simp [ha.ev hx, ha.ev hy]
  simp only [run_bind_pure, invoke, e1, builtin]
  simp only [Sem.run_bind, hr', Result.andThen_ok, Sem.run_pure]
  exact hn _ _ w' hK hs'
theorem zeroCells_one {z : Array Value} {m : Nat} (h : ∀ v ∈ z.toList, v.oneCell' = true) (hz : 0 < z.size) : ∀ v ∈ (Builtin.zeroCells z m).toList, v.oneCell' = true := by
  intro v hv
  simp only [Builtin.zeroCells, Array.toList_map, List.mem_map] at hv
  obtain ⟨i, _, rfl⟩ := hv
  have hlt : i % z.size < z.size := Nat.mod_lt _ hz
  rw [getElem!_pos z _ hlt]
  exact h _ (Array.getElem_mem_toList hlt)
/-- clear(s[lo:hi]) behind what is there. -/
theorem O_clear (i lo hi : Nat) {K : Value → List HProp → Prop} {t sz by_ : Nat} {z : Value} {x : Operand} {S : SV} {l : List α} [u : TyU P t (.slice τ.e)] [v : TyI P τ.e sz z by_] (hL : L[i]? = some (slc τ true S l))
    (hx : ρ.ev x = some (S.sub τ.sz lo hi).v) (hsz : sz = τ.sz) (hz : z.cells.size = sz) (h1 : ∀ v ∈ z.cells.toList, v.oneCell' = true) (hlo : l.length ≤ lo) (hlh : lo ≤ hi) (hhi : hi ≤ S.c)
    (hK : K (.tuple #[]) L) : JOp P E n ⟨dst, .call ⟨.builtin .clear, #[x], #[t]⟩, ty, pos, after, g⟩ K ρ L := fun a w ha hs next Q hn => by
  obtain ⟨r, hr, hrs, hrz, hrb⟩ := v.get
  obtain ⟨p, ⟨hn', hcap, h⟩, hw⟩ := hs.at hL
  have key : ∃ w', (Builtin.clear_ #[t] ty #[(S.sub τ.sz lo hi).v]).run P w = .ok (.tuple #[]) w' ∧ Sat E w' L := by
    have hset : L.set i (slc τ true S l) = L := List.ext_getElem? fun j => by
      rw [List.getElem?_set]
      by_cases e : i = j
      · subst e; rw [hL]; simp [(List.getElem?_eq_some_iff.1 hL).1]
      · simp [e]
    by_cases he : hi = lo
    · refine ⟨w, ?_, hs⟩
      simp only [Builtin.clear_, SV.v, SV.sub, he, Nat.sub_self]
      generalize (if S.c = lo then S.a else Option.map (fun x => x.add (lo * τ.sz)) S.a) = q
      cases q <;> simp [run_underlying u.h]
    · rcases h with ⟨hno, h0⟩ | ⟨_, _, hf0, _⟩ | ⟨b, o, hS, _, cs, fr, hp, hfr, hlen', hcs, hmx⟩
      · refine ⟨w, ?_, hs⟩
        simp only [Builtin.clear_, SV.v, SV.sub, hno]
        simp [run_underlying u.h]
      · cases hf0
      · have hb' := (hw b _ hp).2
        have hzl : (Builtin.zeroCells z.cells (hi - lo)).toList.length = (hi - lo) * τ.sz := by rw [Array.length_toList, size_zeroCells, hz, hsz]
        have hm1 : lo * τ.sz + (hi - lo) * τ.sz = hi * τ.sz := by rw [← Nat.add_mul]; congr 1; omega
        have hm2 : hi * τ.sz ≤ S.c * τ.sz := Nat.mul_le_mul_right _ hhi
        have hm3 : S.n * τ.sz ≤ lo * τ.sz := Nat.mul_le_mul_right _ (by omega)
        obtain ⟨w', hst, ht1⟩ := run_storeCells (P := P) b τ.e fr (Builtin.zeroCells z.cells (hi - lo)).toList (o + lo * τ.sz) 0 cs w hb' hfr (by rw [hzl]; omega) (zeroCells_one h1 (by rw [hz, hsz]; exact τ.pos))
        refine ⟨w', ?_, ?_⟩
        · have hst' : (storeCells (⟨b, o + lo * τ.sz, none⟩ : Addr) (Builtin.zeroCells z.cells (hi - lo)).toList).run P w = .ok () w' := hst
          have hne : S.c ≠ lo := by omega
          obtain ⟨q, hq⟩ : ∃ q, hi - lo = q + 1 := ⟨hi - lo - 1, by omega⟩
          simp only [Builtin.clear_, SV.v, SV.sub, if_neg hne, hS, Option.map_some, addr_add]
          rw [hq] at hst' ⊢
          simp [run_underlying u.h, zeroValue, typeInfo, hr, hrz]
          rw [hst']
          simp
        · rw [← hset]
          refine hs.turn_at hL (fun p' ⟨_, _, hp2⟩ _ => ?_) ht1
          have hp' : ∃ o', p' b = some o' := by
            rcases hp2 with ⟨hno, _⟩ | ⟨_, _, hf0, _⟩ | ⟨b2, o2, hS2, _, cs2, fr2, hb2, _⟩
            · rw [hno] at hS; cases hS
            · cases hf0
            · rw [hS2] at hS; simp only [Option.some.injEq, Addr.mk.injEq] at hS; obtain ⟨rfl, _⟩ := hS; exact ⟨_, hb2⟩
          have hl3 : (cs.take (o + lo * τ.sz) ++ (Builtin.zeroCells z.cells (hi - lo)).toList ++ cs.drop (o + lo * τ.sz + (Builtin.zeroCells z.cells (hi - lo)).toList.length)).length = cs.length := by
            simp only [List.length_append, List.length_take, List.length_drop, hzl]; omega
          refine ⟨hp', hn', hcap, .inr (.inr ⟨b, o, hS, rfl, cs.take (o + lo * τ.sz) ++ (Builtin.zeroCells z.cells (hi - lo)).toList ++ cs.drop (o + lo * τ.sz + (Builtin.zeroCells z.cells (hi - lo)).toList.length), fr, by simp, ?_, ?_, ?_, hmx⟩)⟩
          · rw [hl3]; exact hfr
          · rw [hl3]; exact hlen'
          · rw [← hcs, List.append_assoc, List.drop_append, List.take_append]
            have hl4 : ((cs.take (o + lo * τ.sz)).drop o).length = lo * τ.sz := by simp; omega
            rw [hl4, show S.n * τ.sz - lo * τ.sz = 0 by omega, List.take_zero, List.append_nil, List.drop_take, List.take_take]
            congr 1; omega
  obtain ⟨w', hr', hs'⟩ := key
  unfold Oper.wp
  simp only [execOp, resolve]
  have e1 : (Array.map a.eval #[x]) = #[(S.sub τ.sz lo hi).v] := by simp [ha.ev hx]
  simp only [run_bind_pure, invoke, e1, builtin]
  simp only [Sem.run_bind, hr', Result.andThen_ok, Sem.run_pure]
  exact hn _ _ w' hK hs'
end
end Go.SL
/- A slice's capacity; a copy; an append of zeros; what an insertion asks of two slices. -/
set_option autoImplicit false
namespace Go.SL
section
variable {α : Type} {τ : Ty α} {P : Program} {E : World} {n : Nat} {ρ : Env} {L : List HProp} {dst : Option Tmp} {ty : TypeId} {pos : String} {after : Array Edge} {g : Option (Nat × Bool)}
theorem Q_capV {t e : Nat} {x : Operand} {S : SV} [u : TyU P t (.slice e)] (hx : ρ.ev x = some S.v) : QOp P E n ⟨dst, .call ⟨.builtin .cap, #[x], #[t]⟩, ty, pos, after, g⟩ ρ L (.int .i64 (S.c : Int)) := fun a w ha hs =>
  run_builtin (args := [x]) (vs := [S.v]) a w ha (by simp [Env.evs, hx]) (fun cs => by simp [builtin, Builtin.cap_, run_underlying u.h, goInt])
theorem zeros_flat {z : Value} {sz : Nat} (m : Nat) (a0 : α) (hz : z.cells.toList = τ.enc a0) (hsz : sz = τ.sz) : (Builtin.zeroCells z.cells m).toList = τ.flat (List.replicate m a0) := by
  have hzs : z.cells.size = sz := by rw [← Array.length_toList, hz, τ.len, hsz]
  rw [τ.flat_replicate, ← hz]
  apply List.ext_getElem?
  intro q
  have hp := τ.pos
  have e0 : z.cells.toList.length = sz := by simp [hzs]
  by_cases hq : q < m * sz
  · have hqs : q % sz < sz := Nat.mod_lt _ (by omega)
    have e1 : (Builtin.zeroCells z.cells m).toList[q]? = some (z.cells[q % sz]!) := by
      simp [Builtin.zeroCells, hq, hzs]
    have : ∀ (m : Nat) (ls : List Value) (q : Nat), 0 < ls.length → q < m * ls.length → (List.replicate m ls).flatten[q]? = ls[q % ls.length]? := by
      intro m
      induction m with
      | zero => intro ls q _ h; simp at h
      | succ m ih =>
        intro ls q hp h
        rw [List.replicate_succ, List.flatten_cons]
        by_cases hlt : q < ls.length
        · rw [List.getElem?_append_left hlt, Nat.mod_eq_of_lt hlt]
        · rw [List.getElem?_append_right (by omega), ih _ _ hp (by rw [Nat.add_mul] at h; omega)]
          congr 1
          rw [← Nat.mod_eq_sub_mod (by omega)]
    rw [e1, this m _ q (by omega) (by rw [e0]; exact hq), e0]
    have : q % sz < z.cells.size := by omega
    simp [this]
  · rw [List.getElem?_eq_none (by simp [Builtin.zeroCells, hzs]; omega), List.getElem?_eq_none]
    simp [e0]
    first | omega | (rw [Nat.mul_comm]; omega)
/-- append(s[:k], make(..)...), where there is no room: a new row; s is as it was. -/
theorem O_appZ (i k m : Nat) (a0 : α) {K : Value → List HProp → Prop} {t t' sz by_ : Nat} {z : Value} {x y : Operand} {S : SV} {l : List α} {kk : IntKind} {j : Int} [u : TyU P t (.slice τ.e)] [u' : TyU P t' (.int .i64)] [v : TyI P τ.e sz z by_] (hL : L[i]? = some (slc τ true S l))
    (hx : ρ.ev x = some (S.sub τ.sz 0 k).v) (hy : ρ.ev y = some (.int kk j)) (hj : j = (m : Int)) (hsz : sz = τ.sz) (hz : z.cells.toList = τ.enc a0) (hk : k ≤ l.length) (hroom : S.c < k + m) (hb : (k + m) * by_ ≤ 140737488355328) (hb1 : 1 ≤ by_)
    (hK : ∀ S', K (SV.v S') (slc τ true S' (l.take k ++ List.replicate m a0) :: L)) : JOp P E n ⟨dst, .call ⟨.builtin .append, #[x, y], #[t, t']⟩, ty, pos, after, g⟩ K ρ L := fun a w ha hs next Q hn => by
  obtain ⟨r, hr, hrs, hrz, hrb⟩ := v.get
  subst hj
  have hneed : k + m ≤ 140737488355328 := Nat.le_trans (Nat.le_mul_of_pos_right _ hb1) hb
  have hzs : z.cells.size = sz := by rw [← Array.length_toList, hz, τ.len, hsz]
  have hR := (hs.rd i hL).sub 0 k (Nat.zero_le _) hk
  rw [List.drop_zero] at hR
  have hlk : (l.take k).length = k := by simp; omega
  have hfit : Builtin.nextslicecap (k + m) S.c * by_ ≤ 281474976710656 := by
    have : Builtin.nextslicecap (k + m) S.c ≤ 2 * (k + m) := by
      unfold Builtin.nextslicecap
      split
      · omega
      · split
        · omega
        · rename_i h1 h2
          have grow : ∀ (rounds c N : Nat), c ≤ 2 * N → 256 ≤ N → (∀ c', c' < N → c' + (c' + 768) / 4 ≤ 2 * N) → Builtin.growBy N rounds c ≤ 2 * N := by
            intro rounds
            induction rounds with
            | zero => intro c N h _ _; exact h
            | succ r ih =>
              intro c N h h2 h3
              unfold Builtin.growBy
              split
              · exact h
              · exact ih _ _ (h3 c (by omega)) h2 h3
          exact grow 4 S.c (k + m) (by omega) (by omega) (by intro c' hc'; omega)
    calc Builtin.nextslicecap (k + m) S.c * by_ ≤ 2 * (k + m) * by_ := Nat.mul_le_mul_right _ this
      _ = 2 * ((k + m) * by_) := by rw [Nat.mul_assoc]
      _ ≤ 281474976710656 := by omega
  have hSn : (S.sub τ.sz 0 k).n = k := by simp [SV.sub]
  have hSc : (S.sub τ.sz 0 k).c = S.c := by simp [SV.sub]
  generalize hU : S.sub τ.sz 0 k = U at *
  obtain ⟨ua, un, uc⟩ := U
  simp only at hSn hSc
  subst hSn hSc
  have hfo : ∀ w', w'.heap = w.heap → (Builtin.firstCells sz un (.slice ua un S.c)).run P w' = .ok (τ.flat (l.take un)).toArray w' := fun w' hw' => by
    rcases hR.cells with h0 | ⟨b, hb, hc⟩
    · have hl0 : un = 0 := by
        have := τ.flat_length (l.take un)
        rw [h0, hlk] at this
        have hp := τ.pos
        rcases Nat.eq_zero_or_pos un with h | h
        · omega
        · have := Nat.mul_le_mul_right τ.sz h; simp only [List.length_nil] at *; omega
      rw [h0, hl0]
      cases ua <;> simp [Builtin.firstCells, loadCells, loadCellsFrom]
    · simp only at hb
      subst hb
      simp only [Builtin.firstCells]
      exact run_cells b (τ.flat (l.take un)) (fun j u hu => by have := hc j u hu; simpa [World.cell?, hw'] using this) _ (by rw [τ.flat_length, hsz, hlk])
  have hfo := hfo w.drew rfl
  have hn' : ¬ (un + m ≤ S.c) := by omega
  have h63' : ¬ (9223372036854775807 < ((un : Int) + (m : Int))) := by omega
  have h48' : ¬ (281474976710656 < Builtin.nextslicecap (un + m) S.c * by_) := by omega
  have hmb : (m : Int) * (r.bytes : Int) ≤ 281474976710656 := by
    rw [hrb, ← Int.natCast_mul]
    have : m * by_ ≤ (un + m) * by_ := Nat.mul_le_mul_right _ (by omega)
    omega
  have hmb' : ¬ (281474976710656 < (m : Int) * (r.bytes : Int)) := by omega
  have hm0 : 0 < m := by have := (hs.rd i hL).2.1; have := (hs.rd i hL).1; omega
  have hms : ¬ (m * sz = 0) := by
    have hp := τ.pos
    have := Nat.mul_le_mul hm0 (show 1 ≤ sz by omega)
    omega
  have hwr : IntKind.i64.wrap (m : Int) = (m : Int) := by rw [IntKind.wrap_i64]; omega
  let cap := grownCap w (un + m) S.c τ.e
  let C : List Value := τ.flat (l.take un) ++ τ.flat (List.replicate m a0) ++ (Builtin.zeroCells z.cells (cap - (un + m))).toList
  have hcapge : un + m ≤ cap := grownCap_ge w _ _ _
  have hcaple : cap ≤ 9223372036854775807 := by
    have := grownCap_le_maxLen w (un + m) S.c τ.e (by unfold maxLen; omega)
    unfold maxLen at this; exact this
  have hrun : (Builtin.append_ #[t, t'] ty #[.slice ua un S.c, .int kk (m : Int)]).run P w = .ok (SV.v ⟨some ⟨w.heap.size, 0, none⟩, un + m, cap⟩) (w.drew.alloc (.cells C.toArray τ.e)) := by
    have e1 : C.toArray = (τ.flat (l.take un)).toArray ++ (Builtin.zeroCells z.cells m) ++ Builtin.zeroCells z.cells (cap - (un + m)) := by
      simp [C, ← zeros_flat (τ := τ) m a0 hz hsz]
    rw [e1]
    have hfo' : (Builtin.firstCells r.size un (.slice ua un S.c)).run P w.drew = .ok (τ.flat (l.take un)).toArray w.drew := by rw [hrs]; exact hfo
    have hms' : ¬ (m * r.size = 0) := by rw [hrs]; exact hms
    have hm1 : ¬ (m = 0) := by omega
    have hr0 : ¬ (r.size = 0) := fun h => hms' (by rw [h]; simp)
    have hneg : ¬ ((m : Int) < 0) := by omega
    have hmb3 : ¬ (281474976710656 < (m : Int) * (by_ : Int)) := by rw [← hrb]; exact hmb'
    simp only [Builtin.append_]
    simp [run_underlying u.h, run_underlying u'.h, sizeOf, typeInfo, hr, zeroValue, hrz, asInt, asIntOf, hwr, hmb', hmb3, hn', h63', hrb, h48', Question.forced, hfo', hm1, hr0, hms', hneg, newRow, grownCap, cap, SV.v]
    try (congr 2; rw [← Array.append_assoc]; simp)
  have hnw := newed_drew_alloc w (.cells C.toArray τ.e)
  have hfl := τ.flat_length (l.take un ++ List.replicate m a0)
  rw [τ.flat_append] at hfl
  have hsat := hs.new_row (τ := τ) (l := l.take un ++ List.replicate m a0) (c := cap) hnw (.inl (Nat.le_refl _)) (by simp; omega) (by
      have hzl : (Builtin.zeroCells z.cells (cap - (un + m))).toList.length = (cap - (un + m)) * τ.sz := by rw [Array.length_toList, size_zeroCells, hzs, hsz]
      have hCl : C.length = (τ.flat (l.take un)).length + (τ.flat (List.replicate m a0)).length + (cap - (un + m)) * τ.sz := by
        show (τ.flat (l.take un) ++ τ.flat (List.replicate m a0) ++ (Builtin.zeroCells z.cells (cap - (un + m))).toList).length = _
        rw [List.length_append, List.length_append, hzl]
      rw [hCl, Nat.sub_mul]
      have := Nat.mul_le_mul_right τ.sz hcapge
      rw [List.length_append, List.length_append, hlk, List.length_replicate] at hfl
      omega) (by
      simp only [C]
      rw [List.take_append, show (l.take un ++ List.replicate m a0).length * τ.sz - (τ.flat (l.take un) ++ τ.flat (List.replicate m a0)).length = 0 by omega, List.take_zero, List.append_nil, List.take_of_length_le (by omega), τ.flat_append]) hcaple
  have hlen2 : (l.take un ++ List.replicate m a0).length = un + m := by simp; omega
  rw [hlen2] at hsat
  unfold Oper.wp
  simp only [execOp, resolve]
  have e1 : (Array.map a.eval #[x, y]) = #[.slice ua un S.c, .int kk (m : Int)] := by simp [ha.ev hx, ha.ev hy]
  simp only [run_bind_pure, invoke, e1, builtin]
  simp only [Sem.run_bind, hrun, Result.andThen_ok, Sem.run_pure]
  exact hn _ _ _ (hK _) hsat
/-- copy(d[lo:hi], s) -/
theorem O_copy (i lo hi : Nat) {K : Value → List HProp → Prop} {t t' sz by_ : Nat} {z : Value} {x y : Operand} {D T : SV} {l m : List α} [u : TyU P t (.slice τ.e)] [v : TyI P τ.e sz z by_] (hL : L[i]? = some (slc τ true D l))
    (hT : ∀ w, Sat E w L → Rd τ w ⟨T.a, m.length, T.c⟩ m) (hx : ρ.ev x = some (D.sub τ.sz lo hi).v) (hy : ρ.ev y = some T.v) (hsz : sz = τ.sz) (hmin : min T.n (hi - lo) = m.length) (hlo : lo ≤ l.length) (hroom : lo + m.length ≤ D.c)
    (hK : K (.int .i64 (m.length : Int)) (L.set i (slc τ true ⟨D.a, max D.n (lo + m.length), D.c⟩ (l.take lo ++ m ++ l.drop (lo + m.length))))) : JOp P E n ⟨dst, .call ⟨.builtin .copy, #[x, y], #[t, t']⟩, ty, pos, after, g⟩ K ρ L := fun a w ha hs next Q hn => by
  obtain ⟨r, hr, hrs, hrz, hrb⟩ := v.get
  have hR := hT w hs
  have hfc : (Builtin.firstCells sz m.length T.v).run P w = .ok (τ.flat m).toArray w := by
    rcases hR.cells with h0 | ⟨b, hb, hc⟩
    · have hl0 : m.length = 0 := by
        have := τ.flat_length m
        rw [h0] at this
        have hp := τ.pos
        rcases Nat.eq_zero_or_pos m.length with h | h
        · exact h
        · have := Nat.mul_le_mul_right τ.sz h; simp only [List.length_nil] at *; omega
      rw [h0, hl0]
      cases hS : T.a <;> simp [SV.v, hS, Builtin.firstCells, loadCells, loadCellsFrom]
    · simp only at hb
      simp only [SV.v, hb, Builtin.firstCells]
      exact run_cells b (τ.flat m) (fun j u hu => hc j u hu) _ (by rw [τ.flat_length, hsz])
  have hlen : (Builtin.lenOf T.v).run P w = .ok T.n w := by simp [Builtin.lenOf]
  obtain ⟨p, ⟨hn', hcap, h⟩, hw⟩ := hs.at hL
  have hdn : (D.sub τ.sz lo hi).n = hi - lo := rfl
  have hmin' : Nat.min T.n (hi - lo) = m.length := hmin
  have key : ∃ w', (Builtin.copy_ #[t, t'] ty #[(D.sub τ.sz lo hi).v, T.v]).run P w = .ok (.int .i64 (m.length : Int)) w' ∧ Sat E w' (L.set i (slc τ true ⟨D.a, max D.n (lo + m.length), D.c⟩ (l.take lo ++ m ++ l.drop (lo + m.length)))) := by
    rcases h with ⟨hno, h0⟩ | ⟨_, _, hf0, _⟩ | ⟨b, o, hS, _, cs, fr, hp, hfr, hlen', hcs, hmx⟩
    · have hm0 : m.length = 0 := by omega
      have hm : m = [] := List.eq_nil_of_length_eq_zero hm0
      have hl : l = [] := List.eq_nil_of_length_eq_zero (by omega)
      subst hm hl
      refine ⟨w, ?_, ?_⟩
      · have hfc' := hfc
        simp only [List.length_nil] at hfc' hmin'
        have hna : (D.sub τ.sz lo hi).a = none := by simp [SV.sub, hno]
        simp only [Builtin.copy_, SV.v] at *
        rw [hdn, hna]
        simp [run_underlying u.h, sizeOf, typeInfo, hr, hrs, hlen, hmin', hfc', goInt]
      · have e : L.set i (slc τ true ⟨D.a, max D.n (lo + ([] : List α).length), D.c⟩ (([] : List α).take lo ++ [] ++ ([] : List α).drop (lo + ([] : List α).length))) = L := by
          have e2 : (⟨D.a, max D.n (lo + ([] : List α).length), D.c⟩ : SV) = D := by
            cases D; simp at hn' hroom h0 ⊢; omega
          rw [e2]
          refine List.ext_getElem? fun j => ?_
          rw [List.getElem?_set]
          by_cases e : i = j
          · subst e; rw [hL]; simp [(List.getElem?_eq_some_iff.1 hL).1]
          · simp [e]
        rw [e]; exact hs
    · cases hf0
    · have hb' := (hw b _ hp).2
      have hfl := τ.flat_length m
      have hmul : (lo + m.length) * τ.sz ≤ D.c * τ.sz := Nat.mul_le_mul_right _ hroom
      rw [Nat.add_mul] at hmul
      obtain ⟨w', hst, ht1⟩ := run_storeCells (P := P) b τ.e fr (τ.flat m) (o + lo * τ.sz) 0 cs w hb' hfr (by omega) (τ.flat_one m)
      refine ⟨w', ?_, ?_⟩
      · have hst' : ∃ A, (D.sub τ.sz lo hi).a = some A ∧ (storeCells A (τ.flat m)).run P w = .ok () w' := by
          by_cases e : D.c = lo
          · have hm : m = [] := List.eq_nil_of_length_eq_zero (by omega)
            subst hm
            refine ⟨⟨b, o, none⟩, by simp [SV.sub, e, hS], ?_⟩
            simpa [Ty.flat, storeCells] using hst
          · exact ⟨⟨b, o + lo * τ.sz, none⟩, by simp [SV.sub, e, hS, addr_add], hst⟩
        obtain ⟨A, hA, hst'⟩ := hst'
        simp only [Builtin.copy_, SV.v] at *
        rw [hdn, hA]
        simp [run_underlying u.h, sizeOf, typeInfo, hr, hrs, hlen, hmin', hfc, goInt, hst']
      · refine hs.turn_at hL (fun p' ⟨_, _, hp2⟩ _ => ?_) ht1
        have hp' : ∃ o', p' b = some o' := by
          rcases hp2 with ⟨hno, _⟩ | ⟨_, _, hf0, _⟩ | ⟨b2, o2, hS2, _, cs2, fr2, hb2, _⟩
          · rw [hno] at hS; cases hS
          · cases hf0
          · rw [hS2] at hS; simp only [Option.some.injEq, Addr.mk.injEq] at hS; obtain ⟨rfl, _⟩ := hS; exact ⟨_, hb2⟩
        have hCl : (cs.take (o + lo * τ.sz) ++ τ.flat m ++ cs.drop (o + lo * τ.sz + (τ.flat m).length)).length = cs.length := by simp; omega
        refine ⟨hp', by simp; omega, by simp; omega, .inr (.inr ⟨b, o, hS, rfl, cs.take (o + lo * τ.sz) ++ τ.flat m ++ cs.drop (o + lo * τ.sz + (τ.flat m).length), fr, by simp, by rw [hCl]; exact hfr, by rw [hCl]; exact hlen', ?_, hmx⟩)⟩
        have hA : (cs.take (o + lo * τ.sz)).length = o + lo * τ.sz := by simp; omega
        have hDl : D.n * τ.sz = l.length * τ.sz := by rw [hn']
        have hlo' : lo * τ.sz ≤ l.length * τ.sz := Nat.mul_le_mul_right _ hlo
        rw [List.append_assoc, List.drop_append_of_le_length (by omega), List.drop_take, show o + lo * τ.sz - o = lo * τ.sz by omega]
        have h1 : (cs.drop o).take (lo * τ.sz) = τ.flat (l.take lo) := by
          have := congrArg (List.take (lo * τ.sz)) hcs
          rw [List.take_take, Nat.min_eq_left (by omega), τ.flat_take] at this
          exact this
        have h2 : (cs.drop (o + lo * τ.sz + (τ.flat m).length)).take ((D.n - (lo + m.length)) * τ.sz) = τ.flat (l.drop (lo + m.length)) := by
          have := congrArg (List.drop ((lo + m.length) * τ.sz)) hcs
          rw [List.drop_take, List.drop_drop, τ.flat_drop] at this
          rw [Nat.sub_mul, hfl, ← this]
          congr 2
          rw [Nat.add_mul]; omega
        rw [h1, τ.flat_append, τ.flat_append, List.append_assoc]
        generalize cs.drop (o + lo * τ.sz + (τ.flat m).length) = R at h2 ⊢
        have hfl1 := τ.flat_length (l.take lo)
        rw [List.length_take, Nat.min_eq_left hlo] at hfl1
        have hmx2 : max D.n (lo + m.length) * τ.sz = lo * τ.sz + (m.length * τ.sz + (D.n - (lo + m.length)) * τ.sz) := by
          rw [← Nat.add_mul, ← Nat.add_mul]; congr 1; omega
        rw [hmx2, ← hfl1, List.take_length_add_append, ← hfl, List.take_length_add_append, h2]
  obtain ⟨w', hr', hs'⟩ := key
  unfold Oper.wp
  simp only [execOp, resolve]
  have e1 : (Array.map a.eval #[x, y]) = #[(D.sub τ.sz lo hi).v, T.v] := by simp [ha.ev hx, ha.ev hy]
  simp only [run_bind_pure, invoke, e1, builtin]
  simp only [Sem.run_bind, hr', Result.andThen_ok, Sem.run_pure]
  exact hn _ _ w' hK hs'
/-- A slice in a block of its own, of plain memory. -/
def slcN {α : Type} (τ : Ty α) (S : SV) (l : List α) : HProp := fun _ h => ∃ b : Nat, S = ⟨some ⟨b, 0, none⟩, l.length, l.length⟩ ∧ l.length ≤ 9223372036854775807 ∧ h b = some (.cells (τ.flat l).toArray τ.e)
theorem slcN_slc {S : SV} {l : List α} {h : Frag} (hs : slcN τ S l E h) : slc τ true S l E h := by
  obtain ⟨b, rfl, hl, hb⟩ := hs
  have hfl := τ.flat_length l
  exact ⟨rfl, Nat.le_refl _, .inr (.inr ⟨b, 0, rfl, rfl, τ.flat l, (0, 0), hb, .inl (Nat.le_refl _), by simp only; omega, by rw [List.drop_zero, List.take_of_length_le (by simp only; omega)], hl⟩)⟩
theorem Ent.slcN {S : SV} {l : List α} (i : Nat) (hi : L[i]? = some (SL.slcN τ S l)) : Ent L (L.set i (slc τ true S l)) := fun _ _ h => h.map_at hi fun _ hg => slcN_slc hg
theorem Sat.rdN {w : World} (h : Sat E w L) (i : Nat) {S : SV} {l : List α} (hi : L[i]? = some (SL.slcN τ S l)) : Rd τ w S l := by
  have := h.map_at hi (d := slc τ true S l) fun _ hg => slcN_slc hg
  exact this.rd i (by rw [List.getElem?_set_self (List.getElem?_eq_some_iff.1 hi).1])
theorem O_litN {K : Value → List HProp → Prop} {t sz by_ : Nat} {z : Value} {ps : List (Nat × Operand)} {m : Nat} {vs : List Value} (l : List α) [u : TyU P t (.slice τ.e)] [v : TyI P τ.e sz z by_] (hp : ((ps.map (·.2)).zipIdx.map fun (x, i) => (i, x)) = ps) (hx : ρ.evs (ps.map (·.2)) = some vs) (hm : m = vs.length) (hsz : sz = τ.sz) (hz : z.cells.size = sz)
    (hl : vs.map (fun v => v.cells.toList) = l.map τ.enc) (h24 : m * sz ≤ 16777216) (hm0 : 0 < m) (hK : ∀ S, K (SV.v S) (slcN τ S l :: L)) : JOp P E n ⟨dst, .buildSlice t m ps.toArray, ty, pos, after, g⟩ K ρ L := fun a w ha hs next Q hn => by
  rw [← hp]
  generalize ps.map (·.2) = xs at *
  obtain ⟨r, hr, hrs, hrz, hrb⟩ := v.get
  have hlen : vs.length = l.length := by have := congrArg List.length hl; simpa using this
  have hcells : ∀ u ∈ vs, u.cells.size = sz := fun u hu => by
    have h1 : u.cells.toList ∈ l.map τ.enc := by rw [← hl]; exact List.mem_map_of_mem hu
    obtain ⟨b, _, hb⟩ := List.mem_map.1 h1
    have := τ.len b
    rw [hb] at this
    rw [hsz]; simpa using this
  have hflat : (vs.flatMap fun v => v.cells.toList) = τ.flat l := by
    have h1 : (vs.map (fun v => v.cells.toList)).flatten = (l.map τ.enc).flatten := by rw [hl]
    simpa [List.flatMap, Ty.flat] using h1
  let C : List Value := (Array.range (m * sz)).toList.map (z.cells[· % z.cells.size]!)
  have hC : C.length = m * sz := by simp [C]
  have hfill := run_fill sz vs 0 C hcells (by rw [hC, hm]; omega)
  rw [hflat] at hfill
  simp only [Nat.zero_mul, List.take_zero, List.nil_append, Nat.zero_add] at hfill
  rw [List.drop_of_length_le (by rw [hC, hm]; omega), List.append_nil] at hfill
  have h0 : ¬ (m * sz = 0) := by
    have hp := τ.pos
    have := Nat.mul_le_mul hm0 (show 1 ≤ sz by omega)
    omega
  have hrun : (Instr.buildSlice t m ((xs.zipIdx.map fun (x, i) => (i, x)).toArray.map fun (i, x) => (i, a.eval x))).run P w = .ok (.slice (some ⟨w.heap.size, 0, none⟩) m m) (w.alloc (.cells (τ.flat l).toArray τ.e)) := by
    have e1 : ((xs.zipIdx.map fun (x, i) => (i, x)).toArray.map fun (i, x) => (i, a.eval x)) = ((vs.zipIdx 0).map fun (v, i) => (i, v)).toArray := by
      rw [← ha.evs hx]
      simp [List.zipIdx_map]
    rw [e1]
    simp only [Instr.buildSlice]
    have eC : ((Array.range (m * sz)).map (z.cells[· % z.cells.size]!)) = C.toArray := by
      apply Array.ext'; simp [C]
    simp [run_underlying u.h, sizeOf, typeInfo, zeroValue, hr, hrs, hrz, h0, show ¬ (16777216 < m * sz) by omega]
    rw [eC, hfill]
    simp [newRow]
  have hml : m = l.length := by omega
  have hsat : Sat E (w.alloc (.cells (τ.flat l).toArray τ.e)) (slcN τ ⟨some ⟨w.heap.size, 0, none⟩, m, m⟩ l :: L) := (hs.newed (newed_alloc w (.cells (τ.flat l).toArray τ.e))).weaken fun g hg => ⟨w.heap.size, by rw [hml], by
    have hp := τ.pos
    have := Nat.mul_le_mul_left m (show 1 ≤ sz by omega)
    omega, hg⟩
  unfold Oper.wp
  simp only [execOp]
  simp only [Sem.run_bind, hrun, Result.andThen_ok, Sem.run_pure]
  exact hn _ _ _ (hK ⟨some ⟨w.heap.size, 0, none⟩, m, m⟩) hsat
/-- slices.overlaps, of what lies in two blocks. -/
def OvFn (P : Program) (f t : Nat) : Prop := ∃ (fn : Func) (t' : Nat), P.funcs[f]? = some fn ∧ (fn.name == "runtime.NumGoroutine") = false ∧ fn.body.isNone = true ∧ Extern.findNext fn = none ∧ Extern.find fn = some (Extern.SlicesOverlaps.overlaps #[t, t] #[t'])
theorem O_overlaps {f : Nat} (i j lo hi : Nat) {K : Value → List HProp → Prop} {t sz by_ : Nat} {z : Value} {x y : Operand} {ts : Array TypeId} {S T : SV} {l m : List α} [u : TyU P t (.slice τ.e)] [v : TyI P τ.e sz z by_] (hf : OvFn P f t) (hij : i ≠ j) (hi' : L[i]? = some (slcN τ T m)) (hj : L[j]? = some (slc τ true S l))
    (hx : ρ.ev x = some T.v) (hy : ρ.ev y = some (S.sub τ.sz lo hi).v) (hsz : sz = τ.sz) (hm : 0 < m.length) (hc : 0 < S.c) (hK : K (.bool false) L) : JOp P E n ⟨dst, .call ⟨.value (.func f), #[x, y], ts⟩, ty, pos, after, g⟩ K ρ L := fun a w ha hs next Q hn => by
  obtain ⟨fn, t', h1, h2, h3, h4, h5⟩ := hf
  obtain ⟨r, hr, hrs, hrz, hrb⟩ := v.get
  obtain ⟨fr, f1, f2, f3⟩ := hs.own
  have hil : i < L.length := (List.getElem?_eq_some_iff.1 hi').1
  have hjl : j < L.length := (List.getElem?_eq_some_iff.1 hj).1
  obtain ⟨b, rfl, hml, hb⟩ := f1 i _ hi'
  obtain ⟨_, _, hS⟩ := f1 j _ hj
  rcases hS with ⟨_, h0⟩ | ⟨_, _, hf0, _⟩ | ⟨b2, o, hSa, _, cs, fz, hp, hfr, hlen', hcs, hmx⟩
  · omega
  · cases hf0
  have hne : b ≠ b2 := by
    intro e; subst e
    have := f3 i j hil hjl hij b
    rw [hb, hp] at this
    simp at this
  have hbw := (f2 i hil b _ hb).2
  have hb2w := (f2 j hjl b2 _ hp).2
  have hpos := τ.pos
  have hcl : cs.length ≠ 0 := by
    have := Nat.mul_le_mul hc (show 1 ≤ τ.sz by omega)
    omega
  obtain ⟨A, hA, hAb⟩ : ∃ A : Addr, (S.sub τ.sz lo hi).a = some A ∧ A.block = b2 := by
    by_cases e : S.c = lo
    · exact ⟨_, by simp [SV.sub, e, hSa]; rfl, rfl⟩
    · exact ⟨_, by simp [SV.sub, e, hSa]; rfl, by rw [addr_add]⟩
  have hz' : ∀ w, (Go.sizeOf τ.e).run P w = .ok sz w := fun w => by simp [sizeOf, typeInfo, hr, hrs]
  have hov := Lib.run_overlaps_apart (P := P) w t t' τ.e u.h sz hz' ⟨b, 0, none⟩ A m.length m.length (S.sub τ.sz lo hi).n (S.sub τ.sz lo hi).c (by simpa [hAb] using hne) τ.e τ.e (τ.flat m).length cs.length (by simp [World.shape?, hbw]) (by simp [World.shape?, hAb, hb2w]) hcl (by simp [World.frozen?, hbw]) (by simp [World.frozen?, hbw])
  unfold Oper.wp
  simp only [execOp, resolve]
  have e1 : (Array.map a.eval #[x, y]) = #[.slice (some ⟨b, 0, none⟩) m.length m.length, .slice (some A) (S.sub τ.sz lo hi).n (S.sub τ.sz lo hi).c] := by simp [ha.ev hx, ha.ev hy, SV.v, hA]
  have e2 : a.eval (.func f) = .func (.func f) #[] #[] := rfl
  simp only [e1, e2, Deferred.ofValue, run_bind_pure, invoke, Array.empty_append, Array.append_empty]
  rw [run_callFunc_extern h1 h2 h3 h4 h5, hov]
  simp only [Result.andThen_ok]
  exact hn _ _ w hK hs
theorem Sat.slcA {w : World} (h : Sat E w L) (i : Nat) {S : SV} {l : List α} (hi : L[i]? = some (slc τ true S l)) : 0 < S.c → ∃ g o, S.a = some ⟨g, o, none⟩ := fun hc => by
  obtain ⟨p, ⟨_, _, hp⟩, _⟩ := h.at hi
  rcases hp with ⟨_, h0⟩ | ⟨_, _, hf0, _⟩ | ⟨g, o, ha, _⟩
  · omega
  · cases hf0
  · exact ⟨g, o, ha⟩
theorem Sat.slcT {w : World} (h : Sat E w L) (i : Nat) {T : SV} {x : α} (hi : L[i]? = some (SL.slcN τ T [x])) : ∃ b, T = ⟨some ⟨b, 0, none⟩, 1, 1⟩ := by
  obtain ⟨p, ⟨b, hT, _⟩, _⟩ := h.at hi
  exact ⟨b, hT⟩
theorem Rd.dropN {w : World} {S : SV} {l : List α} {q : Nat} (h : Rd τ w S l) (k : Nat) (hk : k ≤ l.length) : Rd τ w ⟨(S.sub τ.sz k q).a, (l.drop k).length, (S.sub τ.sz k q).c⟩ (l.drop k) := by
  have h1 := h.sub k l.length hk (Nat.le_refl _)
  rw [List.take_length] at h1
  have e : (⟨(S.sub τ.sz k q).a, (l.drop k).length, (S.sub τ.sz k q).c⟩ : SV) = S.sub τ.sz k l.length := by simp [SV.sub]
  rw [e]; exact h1
end
end Go.SL
