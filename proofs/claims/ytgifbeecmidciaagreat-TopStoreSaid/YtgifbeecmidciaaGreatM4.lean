/- Part 4 of the texts below the row: Sl12, Sl13. -/
import Derived.Laws.StructEq
import Derived.Test.YtgifbeecmidciaaGreatM3
/- Unsigned numbers, as natural ones. -/
set_option autoImplicit false
namespace Go.SL
/-- An unsigned kind. -/
class Uns (k : IntKind) : Prop where
 h : k.signed = false
instance : Uns .u8 := ⟨rfl⟩
instance : Uns .u32 := ⟨rfl⟩
instance : Uns .u64 := ⟨rfl⟩
theorem wrapN (k : IntKind) [u : Uns k] (m : Nat) : k.wrap (m : Int) = ((m % 2 ^ k.bits : Nat) : Int) := by
 have h := u.h
 simp only [IntKind.wrap, h]
 simp [BitVec.ofInt_natCast]
theorem wrap_lt (k : IntKind) [Uns k] (m : Nat) (h : m < 2 ^ k.bits) : k.wrap (m : Int) = (m : Int) := by rw [wrapN, Nat.mod_eq_of_lt h]
section
variable {P : Program} {E : World} {n : Nat} {ρ : Env} {L : List HProp} {dst : Option Tmp} {ty : TypeId} {pos : String} {after : Array Edge} {g : Option (Nat × Bool)} {t t' : Nat} {x y : Operand} {k k' : IntKind} [Uns k] {za zb : Int}
theorem Q_andN (a b : Nat) (hx : ρ.ev x = some (.int k za)) (hy : ρ.ev y = some (.int k zb)) (ha : za = (a : Int)) (hb : zb = (b : Int)) (h1 : a < 2 ^ k.bits) (h2 : b < 2 ^ k.bits) :
 QOp P E n ⟨dst, .binOp .and t x y t', ty, pos, after, g⟩ ρ L (.int k ((a &&& b : Nat) : Int)) := by
 subst ha hb
 refine Q_and hx hy ?_
 rw [BitVec.ofInt_natCast, BitVec.ofInt_natCast, BitVec.toNat_and, BitVec.toNat_ofNat, BitVec.toNat_ofNat, Nat.mod_eq_of_lt h1, Nat.mod_eq_of_lt h2]
 exact wrap_lt k _ (Nat.lt_of_le_of_lt Nat.and_le_left h1)
theorem Q_orN (a b : Nat) (hx : ρ.ev x = some (.int k za)) (hy : ρ.ev y = some (.int k zb)) (ha : za = (a : Int)) (hb : zb = (b : Int)) (h1 : a < 2 ^ k.bits) (h2 : b < 2 ^ k.bits) :
 QOp P E n ⟨dst, .binOp .or t x y t', ty, pos, after, g⟩ ρ L (.int k ((a ||| b : Nat) : Int)) := by
 subst ha hb
 refine Q_or hx hy ?_
 rw [BitVec.ofInt_natCast, BitVec.ofInt_natCast, BitVec.toNat_or, BitVec.toNat_ofNat, BitVec.toNat_ofNat, Nat.mod_eq_of_lt h1, Nat.mod_eq_of_lt h2]
 exact wrap_lt k _ (Nat.or_lt_two_pow h1 h2)
theorem Q_xorN (a b : Nat) (hx : ρ.ev x = some (.int k za)) (hy : ρ.ev y = some (.int k zb)) (ha : za = (a : Int)) (hb : zb = (b : Int)) (h1 : a < 2 ^ k.bits) (h2 : b < 2 ^ k.bits) :
 QOp P E n ⟨dst, .binOp .xor t x y t', ty, pos, after, g⟩ ρ L (.int k ((a ^^^ b : Nat) : Int)) := by
 subst ha hb
 refine Q_xor hx hy ?_
 rw [BitVec.ofInt_natCast, BitVec.ofInt_natCast, BitVec.toNat_xor, BitVec.toNat_ofNat, BitVec.toNat_ofNat, Nat.mod_eq_of_lt h1, Nat.mod_eq_of_lt h2]
 exact wrap_lt k _ (Nat.xor_lt_two_pow h1 h2)
theorem Q_addN (a b : Nat) (hx : ρ.ev x = some (.int k za)) (hy : ρ.ev y = some (.int k zb)) (ha : za = (a : Int)) (hb : zb = (b : Int)) :
 QOp P E n ⟨dst, .binOp .add t x y t', ty, pos, after, g⟩ ρ L (.int k (((a + b) % 2 ^ k.bits : Nat) : Int)) := by
 subst ha hb
 exact Q_add hx hy (by rw [← Int.natCast_add, wrapN])
theorem Q_shlN (a j : Nat) (hx : ρ.ev x = some (.int k za)) (hy : ρ.ev y = some (.int k' zb)) (ha : za = (a : Int)) (hb : zb = (j : Int)) (hj : j ≤ k.bits) :
 QOp P E n ⟨dst, .binOp .shl t x y t', ty, pos, after, g⟩ ρ L (.int k ((a * 2 ^ j % 2 ^ k.bits : Nat) : Int)) := by
 subst ha hb
 refine Q_shl hx hy (by omega) ?_
 rw [← wrapN, Int.toNat_natCast, Nat.min_eq_left hj]
 simp
theorem Q_shrN (a j : Nat) (hx : ρ.ev x = some (.int k za)) (hy : ρ.ev y = some (.int k' zb)) (ha : za = (a : Int)) (hb : zb = (j : Int)) (hj : j ≤ k.bits) :
 QOp P E n ⟨dst, .binOp .shr t x y t', ty, pos, after, g⟩ ρ L (.int k ((a / 2 ^ j : Nat) : Int)) := by
 have _ : k.signed = false := Uns.h
 subst ha hb
 refine Q_shr hx hy (by omega) ?_
 rw [Int.toNat_natCast, Nat.min_eq_left hj, Int.fdiv_eq_ediv_of_nonneg _ (by exact_mod_cast Nat.zero_le _)]
 simp
theorem Q_cvtN (a : Nat) {d : Nat} {s : TypeDesc} [u : TyU P t s] [u' : TyU P d (.int k)] (hx : ρ.ev x = some (.int k' za)) (ha : za = (a : Int)) :
 QOp P E n ⟨dst, .convert t d x, ty, pos, after, g⟩ ρ L (.int k ((a % 2 ^ k.bits : Nat) : Int)) := by
 subst ha
 exact Q_cvt hx (wrapN k a)
theorem Q_compl (a : Nat) (hx : ρ.ev x = some (.int k za)) (ha : za = (a : Int)) (h1 : a < 2 ^ k.bits) (hm : k.max = ((2 ^ k.bits - 1 : Nat) : Int)) :
 QOp P E n ⟨dst, .unOp .xor t x, ty, pos, after, g⟩ ρ L (.int k (((2 ^ k.bits - 1) ^^^ a : Nat) : Int)) := fun c w hc _ => by
 subst ha
 have u : k.signed = false := Uns.h
 have e : ((BitVec.ofInt k.bits ((2 ^ k.bits - 1 : Nat) : Int) ^^^ BitVec.ofInt k.bits (a : Int)).toNat : Int) = (((2 ^ k.bits - 1) ^^^ a : Nat) : Int) := by
  rw [BitVec.ofInt_natCast, BitVec.ofInt_natCast, BitVec.toNat_xor, BitVec.toNat_ofNat, BitVec.toNat_ofNat, Nat.mod_eq_of_lt h1, Nat.mod_eq_of_lt (by have := Nat.two_pow_pos k.bits; omega)]
 have h3 : (2 ^ k.bits - 1) ^^^ a < 2 ^ k.bits := Nat.xor_lt_two_pow (by have := Nat.two_pow_pos k.bits; omega) h1
 simp only [execOp, hc.ev hx, Op.unary, u, hm, Op.intBits, e]
 simp
 rw [Nat.mod_eq_of_lt h1, wrap_lt k _ h3]
end
end Go.SL
/- Arrays. -/
set_option autoImplicit false
namespace Go.SL
section
variable {P : Program} {E : World} {n : Nat} {ρ : Env} {L : List HProp} {dst : Option Tmp} {ty : TypeId} {pos : String} {after : Array Edge} {g : Option (Nat × Bool)} {t t' m el sz by_ : Nat} {z : Value} {x y : Operand} {kk : IntKind} {i : Int}
theorem Q_ia (j : Nat) {b o o' : Nat} [u : TyU P t (.array m el)] [v : TyI P el sz z by_] (hx : ρ.ev x = some (.pointer (some ⟨b, o, none⟩))) (hy : ρ.ev y = some (.int kk i)) (hi : i = (j : Int)) (hj : j < m) (ho : o + j * sz = o') :
 QOp P E n ⟨dst, .indexAddr t x y, ty, pos, after, g⟩ ρ L (.pointer (some ⟨b, o', none⟩)) := fun a w ha _ => by
 obtain ⟨r, hr, hs', _⟩ := v.get
 subst hi
 have h1 : (j : Int) < (m : Int) := by omega
 simp only [execOp, ha.ev hx, ha.ev hy]
 simp [Instr.indexAt, asIntOf, run_underlying u.h, Instr.sureAddr, h1, hj, sizeOf, typeInfo, hr, hs', addr_add, ho]
/-- A part of an array's value that is one cell. -/
theorem Q_aiS (j : Nat) {cs : Array Value} {v' : Value} {d : TypeDesc} [u : TyU P t (.array m el)] [u' : TyU P el d] [v : TyI P el sz z by_] (hx : ρ.ev x = some (.agg cs)) (hy : ρ.ev y = some (.int kk i)) (hi : i = (j : Int)) (hj : j < m) (hd : isAggD d = false) (hv : cs[j * sz]? = some v') :
 QOp P E n ⟨dst, .index t x y, ty, pos, after, g⟩ ρ L v' := fun a w ha _ => by
 obtain ⟨r, hr, hs', _⟩ := v.get
 subst hi
 have h1 : (j : Int) < (m : Int) := by omega
 simp only [execOp, ha.ev hx, ha.ev hy]
 simp [Instr.index, asIntOf, run_underlying u.h, h1, hj, sizeOf, typeInfo, hr, hs', part, run_isAgg u'.h, hd, hv]
/-- A part of an array's value that is a struct. -/
theorem Q_aiA (j : Nat) {cs : Array Value} {vs : Array Value} {d : TypeDesc} [u : TyU P t (.array m el)] [u' : TyU P el d] [v : TyI P el sz z by_] (hx : ρ.ev x = some (.agg cs)) (hy : ρ.ev y = some (.int kk i)) (hi : i = (j : Int)) (hj : j < m) (hd : isAggD d = true) (hv : cs.extract (j * sz) (j * sz + sz) = vs) :
 QOp P E n ⟨dst, .index t x y, ty, pos, after, g⟩ ρ L (.agg vs) := fun a w ha _ => by
 obtain ⟨r, hr, hs', _⟩ := v.get
 subst hi
 have h1 : (j : Int) < (m : Int) := by omega
 simp only [execOp, ha.ev hx, ha.ev hy]
 simp [Instr.index, asIntOf, run_underlying u.h, h1, hj, sizeOf, typeInfo, hr, hs', part, run_isAgg u'.h, hd, hv]
/-- Two values are compared. -/
class EqV (P : Program) (t : Nat) (d : Nat) (x y : Value) (b : outParam Bool) : Prop where
 h : ∀ w, (Op.equalIn d t x y).run P w = .ok b w
class EqG (P : Program) (t : Nat) : Prop where
 h : P.eqGuardType P.depth t = false
instance EqV_int (d : Nat) (k : IntKind) (a b : Int) [u : TyU P t (.int k)] : EqV P t (d + 1) (.int k a) (.int k b) (decide (a = b)) := ⟨fun w => by
 rw [run_equalIn_int w d t k k a b u.h]; rfl⟩
theorem EqV_str (d : Nat) (a b : List UInt8) [u : TyU P t .string] : EqV P t (d + 1) (str a) (str b) (decide (a = b)) := ⟨fun w => by
 rw [str, str, run_equalIn_string w d t _ _ u.h, byteArray_toList, byteArray_toList]
 by_cases h : a = b <;> simp [h]⟩
theorem EqV_arr3 {k : IntKind} (a b c a' b' c' : Int) [u : TyU P t (.array 3 el)] [u' : TyU P el (.int k)] [v : TyI P el 1 z by_] (d : Nat) :
 EqV P t (d + 2) (.agg #[.int k a, .int k b, .int k c]) (.agg #[.int k a', .int k b', .int k c']) (decide (a = a' ∧ b = b' ∧ c = c')) := ⟨fun w => by
 obtain ⟨r, hr, hs', _⟩ := v.get
 have e : ∀ (n : Nat) (x y : Int) , (Op.equalIn (d + 1) el (.int k x) (.int k y)).run P w = .ok (x == y) w := fun n x y => run_equalIn_int w d el k k x y u'.h
 have hr3 : (Std.Legacy.Range.mk 0 3 1 (by decide) : Std.Legacy.Range) = [0:3] := rfl
 rw [Op.equalIn]
 simp only [Sem.run_bind, run_underlying u.h, Result.andThen_ok, sizeOf, typeInfo, run_program, hr, Sem.run_pure, hs']
 simp only [Std.Legacy.Range.forIn_eq_forIn_range', Std.Legacy.Range.size]
 simp [List.range', part, run_isAgg u'.h, isAggD, e 0]
 by_cases h1 : a = a' <;> by_cases h2 : b = b' <;> by_cases h3 : c = c' <;> simp [h1, h2, h3]⟩
theorem Q_geql {xs ys : Array Value} {b : Bool} (hg : EqG P t) (h : EqV P t 10000 (.agg xs) (.agg ys) b) (hx : ρ.ev x = some (.agg xs)) (hy : ρ.ev y = some (.agg ys)) : QOp P E n ⟨dst, .binOp .eql t x y t', ty, pos, after, g⟩ ρ L (.bool b) := fun c w ha _ =>
 run_binOp c w ha hx hy (run_eqGuard_agg w .eql t x y xs ys hg.h) (by rw [run_eql_struct, h.h w]; rfl)
theorem Q_gneq {xs ys : Array Value} {b : Bool} (hg : EqG P t) (h : EqV P t 10000 (.agg xs) (.agg ys) b) (hx : ρ.ev x = some (.agg xs)) (hy : ρ.ev y = some (.agg ys)) : QOp P E n ⟨dst, .binOp .neq t x y t', ty, pos, after, g⟩ ρ L (.bool (!b)) := fun c w ha _ =>
 run_binOp c w ha hx hy (run_eqGuard_agg w .neq t x y xs ys hg.h) (by rw [run_neq_struct, h.h w]; rfl)
/-- The parts of an array. -/
theorem Places.arr3 {k : IntKind} [u : TyU P t (.array 3 el)] [v : TyI P el 1 z by_] {z' : Value} {by' : Nat} [v' : TyI P t 3 z' by'] {zero : List Value} (hz : z'.cells = zero.toArray) : Places P t [(0, 1), (1, 1), (2, 1)] zero := ⟨fun w parts cs h => by
 obtain ⟨i, hi, _, hz', _⟩ := v'.get
 obtain ⟨r, hr, hs', _⟩ := v.get
 have key : ∀ (l : List (Nat × Value)) (c0 c1 : Array Value), Instr.fill (fun x => ([(0, 1), (1, 1), (2, 1)] : List (Nat × Nat))[x]?) c0 l = some c1 → Instr.fill (fun i => some (i, 1)) c0 l = some c1 := by
  intro l
  induction l with
  | nil => intro c0 c1 h; exact h
  | cons p l ih =>
   intro c0 c1 h
   obtain ⟨i, v⟩ := p
   match i with
   | 0 => simp only [Instr.fill] at h ⊢; simp at h ⊢; exact ⟨h.1, ih _ _ h.2⟩
   | 1 => simp only [Instr.fill] at h ⊢; simp at h ⊢; exact ⟨h.1, ih _ _ h.2⟩
   | 2 => simp only [Instr.fill] at h ⊢; simp at h ⊢; exact ⟨h.1, ih _ _ h.2⟩
   | j + 3 => simp [Instr.fill] at h
 simp only [Instr.build, Sem.run_bind, zeroValue, typeInfo, run_program, Result.andThen_ok, hi, hz', Sem.run_pure, run_underlying u.h, sizeOf, hr, hs', hz, Nat.mul_one, key _ _ _ (by simpa using h)]⟩
end
section
variable {α : Type} {τ : Ty α} {P : Program} {E : World} {n : Nat} {ρ : Env} {L : List HProp} {dst : Option Tmp} {ty : TypeId} {pos : String} {after : Array Edge} {g : Option (Nat × Bool)}
/-- A slice of values, its parts as they stand. -/
theorem O_litP {K : Value → List HProp → Prop} {t sz by_ : Nat} {z : Value} {ps : List (Nat × Operand)} {m : Nat} {vs : List Value} (l : List α) [u : TyU P t (.slice τ.e)] [v : TyI P τ.e sz z by_] (hp : ((ps.map (·.2)).zipIdx.map fun (x, i) => (i, x)) = ps) (hx : ρ.evs (ps.map (·.2)) = some vs) (hm : m = vs.length) (hsz : sz = τ.sz) (hz : z.cells.size = sz)
 (hl : vs.map (fun v => v.cells.toList) = l.map τ.enc) (h24 : m * sz ≤ 16777216) (hK : ∀ S, K (SV.v S) (slc τ true S l :: L)) : JOp P E n ⟨dst, .buildSlice t m ps.toArray, ty, pos, after, g⟩ K ρ L := by
 have h := O_lit (P := P) (E := E) (n := n) (dst := dst) (ty := ty) (pos := pos) (after := after) (g := g) (t := t) (L := L) l hx hm hsz hz hl h24 hK
 rw [hp] at h
 exact h
end
end Go.SL
