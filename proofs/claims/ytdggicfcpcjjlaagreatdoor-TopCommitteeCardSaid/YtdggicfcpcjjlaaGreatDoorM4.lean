/- Part 4 of the texts below the row: Sl3. -/
import Derived.IntWalk
import Derived.Laws.Pointers
import Derived.Laws.Slices
import Derived.Laws.Strings
import Derived.Test.YtdggicfcpcjjlaaGreatDoorM1
import Derived.Test.YtdggicfcpcjjlaaGreatDoorM3
/- The rules of the symbolic walk for operations on values alone. -/
set_option autoImplicit false
namespace Go.SL
/-- A row of the types' table. -/
class TyI (P : Program) (t : Nat) (size : outParam Nat) (zero : outParam Value) (bytes : outParam Nat) : Prop where
 h : (P.info? t).map (fun i => (i.size, i.zero, i.bytes)) = some (size, some zero, bytes)
class TyU (P : Program) (t : Nat) (d : outParam TypeDesc) : Prop where
 h : P.underlying t = some d
theorem TyI.get {P : Program} {t size bytes : Nat} {zero : Value} (h : TyI P t size zero bytes) : ∃ i, P.info? t = some i ∧ i.size = size ∧ i.zero = some zero ∧ i.bytes = bytes := by
 have := h.h
 cases e : P.info? t with
 | none => rw [e] at this; cases this
 | some i =>
  rw [e] at this
  simp only [Option.map_some, Option.some.injEq, Prod.mk.injEq] at this
  exact ⟨i, rfl, this.1, this.2.1, this.2.2⟩
abbrev str (l : List UInt8) : Value := .string ⟨l.toArray⟩
section
variable {P : Program} {E : World} {n : Nat} {ρ : Env} {L : List HProp} {dst : Option Tmp} {ty : TypeId} {pos : String} {after : Array Edge} {g : Option (Nat × Bool)}
theorem Q_move {x : Operand} {v : Value} (hx : ρ.ev x = some v) : QOp P E n ⟨dst, .move x, ty, pos, after, g⟩ ρ L v := fun a w ha _ => by
 rw [← ha.ev hx]; rfl
theorem Q_assign {x : Operand} {v : Value} (hx : ρ.ev x = some v) : QOp P E n ⟨dst, .assign x, ty, pos, after, g⟩ ρ L v := fun a w ha _ => by
 rw [← ha.ev hx]; rfl
theorem Q_pickT {c x y : Operand} {v : Value} (hc : ρ.ev c = some (.bool true)) (hx : ρ.ev x = some v) : QOp P E n ⟨dst, .pick c x y, ty, pos, after, g⟩ ρ L v := fun a w ha _ => by
 rw [← ha.ev hx]; simp [execOp, ha.ev hc, asBool]
theorem Q_pickF {c x y : Operand} {v : Value} (hc : ρ.ev c = some (.bool false)) (hx : ρ.ev y = some v) : QOp P E n ⟨dst, .pick c x y, ty, pos, after, g⟩ ρ L v := fun a w ha _ => by
 rw [← ha.ev hx]; simp [execOp, ha.ev hc, asBool]
theorem Q_pickB {c x y : Operand} {b p q : Bool} (hc : ρ.ev c = some (.bool b)) (hx : ρ.ev x = some (.bool p)) (hy : ρ.ev y = some (.bool q)) : QOp P E n ⟨dst, .pick c x y, ty, pos, after, g⟩ ρ L (.bool (if b then p else q)) := fun a w ha _ => by
 simp [execOp, ha.ev hc, ha.ev hx, ha.ev hy, asBool]
theorem Q_nilCheck {x : Operand} {b : Addr} (hx : ρ.ev x = some (.pointer (some b))) : QOp P E n ⟨dst, .nilCheck x, ty, pos, after, g⟩ ρ L (.pointer (some b)) := fun a w ha _ => by
 simp [execOp, ha.ev hx]
theorem Q_extract {x : Operand} {i : Nat} {vs : Array Value} {v : Value} (hx : ρ.ev x = some (.tuple vs)) (hv : vs[i]? = some v) : QOp P E n ⟨dst, .extract x i, ty, pos, after, g⟩ ρ L v := fun a w ha _ => by
 simp [execOp, ha.ev hx, Instr.extract, hv]
theorem Q_makeFunc {fn : Fn} {xs ys : List Operand} {vs us : List Value} (hx : ρ.evs xs = some vs) (hy : ρ.evs ys = some us) : QOp P E n ⟨dst, .makeFunc fn xs.toArray ys.toArray, ty, pos, after, g⟩ ρ L (.func fn vs.toArray us.toArray) := fun a w ha _ => by
 simp [execOp, Instr.makeFunc, ← ha.evs hx, ← ha.evs hy]
theorem Q_makeInterface {t : Nat} {x : Operand} {v : Value} {d : TypeDesc} [u : TyU P t d] (hx : ρ.ev x = some v) (hd : (match d with | .interface _ => false | _ => true) = true) : QOp P E n ⟨dst, .makeInterface t x, ty, pos, after, g⟩ ρ L (.iface t v) := fun a w ha _ => by
 simp only [execOp, ha.ev hx]
 simp [Instr.makeInterface, run_underlying u.h]
 cases d <;> simp at hd ⊢
/-! integers -/
theorem run_binOp {op : BinOp} {t t' : Nat} {x y : Operand} {u v : Value} {r : Value} (a : Act) (w : World) (ha : Agrees a n ρ) (hx : ρ.ev x = some u) (hy : ρ.ev y = some v)
 (hg : (eqGuard op t x y u v).run P w = .ok () w) (h : (binOp op t u v).run P w = .ok r w) :
 (execOp a.eval ⟨dst, .binOp op t x y t', ty, pos, after, g⟩).run P w = .ok (.value r) w := by
 simp only [execOp, ha.ev hx, ha.ev hy]
 simp [hg, h]
theorem eqGuard_int (op : BinOp) (t : Nat) (x y : Operand) (k k' : IntKind) (a b : Int) (w : World) : (eqGuard op t x y (.int k a) (.int k' b)).run P w = .ok () w := by
 cases op <;> simp [eqGuard]
section
variable {t t' : Nat} {x y : Operand} {k : IntKind} {a b r : Int}
theorem Q_add (hx : ρ.ev x = some (.int k a)) (hy : ρ.ev y = some (.int k b)) (hr : k.wrap (a + b) = r) : QOp P E n ⟨dst, .binOp .add t x y t', ty, pos, after, g⟩ ρ L (.int k r) := fun c w ha _ =>
 run_binOp c w ha hx hy (eqGuard_int ..) (by simp [binOp, Op.intArith, hr])
theorem Q_sub (hx : ρ.ev x = some (.int k a)) (hy : ρ.ev y = some (.int k b)) (hr : k.wrap (a - b) = r) : QOp P E n ⟨dst, .binOp .sub t x y t', ty, pos, after, g⟩ ρ L (.int k r) := fun c w ha _ =>
 run_binOp c w ha hx hy (eqGuard_int ..) (by simp [binOp, Op.intArith, hr])
theorem Q_mul (hx : ρ.ev x = some (.int k a)) (hy : ρ.ev y = some (.int k b)) (hr : k.wrap (a * b) = r) : QOp P E n ⟨dst, .binOp .mul t x y t', ty, pos, after, g⟩ ρ L (.int k r) := fun c w ha _ =>
 run_binOp c w ha hx hy (eqGuard_int ..) (by simp [binOp, Op.intArith, hr])
theorem Q_quo (hx : ρ.ev x = some (.int k a)) (hy : ρ.ev y = some (.int k b)) (hb : b ≠ 0) (hr : k.wrap (a.tdiv b) = r) : QOp P E n ⟨dst, .binOp .quo t x y t', ty, pos, after, g⟩ ρ L (.int k r) := fun c w ha _ =>
 run_binOp c w ha hx hy (eqGuard_int ..) (by simp [binOp, Op.intDiv, hr, hb])
theorem Q_rem (hx : ρ.ev x = some (.int k a)) (hy : ρ.ev y = some (.int k b)) (hb : b ≠ 0) (hr : a.tmod b = r) : QOp P E n ⟨dst, .binOp .rem t x y t', ty, pos, after, g⟩ ρ L (.int k r) := fun c w ha _ =>
 run_binOp c w ha hx hy (eqGuard_int ..) (by simp [binOp, Op.intDiv, hr, hb])
theorem Q_lss (hx : ρ.ev x = some (.int k a)) (hy : ρ.ev y = some (.int k b)) : QOp P E n ⟨dst, .binOp .lss t x y t', ty, pos, after, g⟩ ρ L (.bool (decide (a < b))) := fun c w ha _ =>
 run_binOp c w ha hx hy (eqGuard_int ..) (by simp [binOp, Op.intCmp])
theorem Q_leq (hx : ρ.ev x = some (.int k a)) (hy : ρ.ev y = some (.int k b)) : QOp P E n ⟨dst, .binOp .leq t x y t', ty, pos, after, g⟩ ρ L (.bool (decide (a ≤ b))) := fun c w ha _ =>
 run_binOp c w ha hx hy (eqGuard_int ..) (by simp [binOp, Op.intCmp])
theorem Q_gtr (hx : ρ.ev x = some (.int k a)) (hy : ρ.ev y = some (.int k b)) : QOp P E n ⟨dst, .binOp .gtr t x y t', ty, pos, after, g⟩ ρ L (.bool (decide (b < a))) := fun c w ha _ =>
 run_binOp c w ha hx hy (eqGuard_int ..) (by simp [binOp, Op.intCmp])
theorem Q_geq (hx : ρ.ev x = some (.int k a)) (hy : ρ.ev y = some (.int k b)) : QOp P E n ⟨dst, .binOp .geq t x y t', ty, pos, after, g⟩ ρ L (.bool (decide (b ≤ a))) := fun c w ha _ =>
 run_binOp c w ha hx hy (eqGuard_int ..) (by simp [binOp, Op.intCmp])
theorem Q_eql (hx : ρ.ev x = some (.int k a)) (hy : ρ.ev y = some (.int k b)) : QOp P E n ⟨dst, .binOp .eql t x y t', ty, pos, after, g⟩ ρ L (.bool (decide (a = b))) := fun c w ha _ =>
 run_binOp c w ha hx hy (eqGuard_int ..) (by simp [binOp, Op.intCmp]; rfl)
theorem Q_neq (hx : ρ.ev x = some (.int k a)) (hy : ρ.ev y = some (.int k b)) : QOp P E n ⟨dst, .binOp .neq t x y t', ty, pos, after, g⟩ ρ L (.bool (decide (¬ a = b))) := fun c w ha _ =>
 run_binOp c w ha hx hy (eqGuard_int ..) (by simp [binOp, Op.intCmp, bne]; rfl)
theorem Q_shl {k' : IntKind} (hx : ρ.ev x = some (.int k a)) (hy : ρ.ev y = some (.int k' b)) (hb : 0 ≤ b) (hr : k.wrap (a * 2 ^ (min b.toNat k.bits)) = r) : QOp P E n ⟨dst, .binOp .shl t x y t', ty, pos, after, g⟩ ρ L (.int k r) := fun c w ha _ =>
 run_binOp c w ha hx hy (eqGuard_int ..) (by simp [binOp, Op.shift, hr, show ¬ b < 0 by omega])
theorem Q_shr {k' : IntKind} (hx : ρ.ev x = some (.int k a)) (hy : ρ.ev y = some (.int k' b)) (hb : 0 ≤ b) (hr : a.fdiv (2 ^ (min b.toNat k.bits)) = r) : QOp P E n ⟨dst, .binOp .shr t x y t', ty, pos, after, g⟩ ρ L (.int k r) := fun c w ha _ =>
 run_binOp c w ha hx hy (eqGuard_int ..) (by simp [binOp, Op.shift, hr, show ¬ b < 0 by omega])
theorem Q_and (hx : ρ.ev x = some (.int k a)) (hy : ρ.ev y = some (.int k b)) (hr : k.wrap ((BitVec.ofInt k.bits a &&& BitVec.ofInt k.bits b).toNat : Int) = r) : QOp P E n ⟨dst, .binOp .and t x y t', ty, pos, after, g⟩ ρ L (.int k r) := fun c w ha _ =>
 run_binOp c w ha hx hy (eqGuard_int ..) (by rw [← hr]; simp [binOp, Op.intBits])
theorem Q_or (hx : ρ.ev x = some (.int k a)) (hy : ρ.ev y = some (.int k b)) (hr : k.wrap ((BitVec.ofInt k.bits a ||| BitVec.ofInt k.bits b).toNat : Int) = r) : QOp P E n ⟨dst, .binOp .or t x y t', ty, pos, after, g⟩ ρ L (.int k r) := fun c w ha _ =>
 run_binOp c w ha hx hy (eqGuard_int ..) (by rw [← hr]; simp [binOp, Op.intBits])
theorem Q_xor (hx : ρ.ev x = some (.int k a)) (hy : ρ.ev y = some (.int k b)) (hr : k.wrap ((BitVec.ofInt k.bits a ^^^ BitVec.ofInt k.bits b).toNat : Int) = r) : QOp P E n ⟨dst, .binOp .xor t x y t', ty, pos, after, g⟩ ρ L (.int k r) := fun c w ha _ =>
 run_binOp c w ha hx hy (eqGuard_int ..) (by rw [← hr]; simp [binOp, Op.intBits])
theorem Q_neg (hx : ρ.ev x = some (.int k a)) (hr : k.wrap (0 - a) = r) : QOp P E n ⟨dst, .unOp .neg t x, ty, pos, after, g⟩ ρ L (.int k r) := fun c w ha _ => by
 rw [← hr]; simp [execOp, ha.ev hx, Op.unary, Op.intArith]
theorem Q_not {b : Bool} (hx : ρ.ev x = some (.bool b)) : QOp P E n ⟨dst, .unOp .not t x, ty, pos, after, g⟩ ρ L (.bool (!b)) := fun c w ha _ => by
 simp [execOp, ha.ev hx, Op.unary]
theorem Q_notD {p : Prop} {dec : Decidable p} (hx : ρ.ev x = some (.bool (@decide p dec))) : QOp P E n ⟨dst, .unOp .not t x, ty, pos, after, g⟩ ρ L (.bool (decide (¬ p))) := fun c w ha _ => by
 simp [execOp, ha.ev hx, Op.unary]
theorem Q_cvt {d : Nat} {s : TypeDesc} [u : TyU P t s] [u' : TyU P d (.int k)] {k' : IntKind} (hx : ρ.ev x = some (.int k' a)) (hr : k.wrap a = r) : QOp P E n ⟨dst, .convert t d x, ty, pos, after, g⟩ ρ L (.int k r) := fun c w ha _ => by
 simp only [execOp, ha.ev hx]
 simp [convert, run_underlying u.h, run_underlying u'.h, Conv.intToInt, hr]
end
/-! strings, bools, pointers -/
section
variable {t t' : Nat} {x y : Operand}
theorem eqGuard_string (op : BinOp) (t : Nat) (x y : Operand) (a b : ByteArray) (w : World) : (eqGuard op t x y (.string a) (.string b)).run P w = .ok () w := by
 cases op <;> simp [eqGuard]
theorem size_str (l : List UInt8) : (⟨l.toArray⟩ : ByteArray).size = l.length := rfl
theorem byteArray_toList (l : List UInt8) : (⟨l.toArray⟩ : ByteArray).toList = l := by
 simp
theorem Q_sadd {a b : List UInt8} (hx : ρ.ev x = some (str a)) (hy : ρ.ev y = some (str b)) (hl : a.length + b.length ≤ 9223372036854775807) : QOp P E n ⟨dst, .binOp .add t x y t', ty, pos, after, g⟩ ρ L (str (a ++ b)) := fun c w ha _ =>
 run_binOp c w ha hx hy (eqGuard_string ..) (by
  have h2 : ¬ (((⟨a.toArray⟩ : ByteArray).size + (⟨b.toArray⟩ : ByteArray).size : Nat) : Int) > IntKind.i64.max := by
   simp [IntKind.max, IntKind.signed, IntKind.bits, ByteArray.size]; omega
  simp only [binOp, Op.stringOp, if_neg h2]
  simp [ByteArray.ext_iff])
theorem Q_seql {a b : List UInt8} (hx : ρ.ev x = some (str a)) (hy : ρ.ev y = some (str b)) : QOp P E n ⟨dst, .binOp .eql t x y t', ty, pos, after, g⟩ ρ L (.bool (decide (a = b))) := fun c w ha _ =>
 run_binOp c w ha hx hy (eqGuard_string ..) (by simp only [binOp, Op.stringOp, byteArray_toList]; by_cases e : a = b <;> simp [e])
theorem Q_sneq {a b : List UInt8} (hx : ρ.ev x = some (str a)) (hy : ρ.ev y = some (str b)) : QOp P E n ⟨dst, .binOp .neq t x y t', ty, pos, after, g⟩ ρ L (.bool (decide (¬ a = b))) := fun c w ha _ =>
 run_binOp c w ha hx hy (eqGuard_string ..) (by simp only [binOp, Op.stringOp, byteArray_toList]; by_cases e : a = b <;> simp [e])
theorem eqGuard_ptr (op : BinOp) (t : Nat) (x y : Operand) (a b : Option Addr) (w : World) : (eqGuard op t x y (.pointer a) (.pointer b)).run P w = .ok () w := by
 cases op <;> simp [eqGuard]
theorem Q_peql {a : Option Addr} {el : Nat} [u : TyU P t (.pointer el)] (hx : ρ.ev x = some (.pointer a)) (hy : ρ.ev y = some (.pointer none)) : QOp P E n ⟨dst, .binOp .eql t x y t', ty, pos, after, g⟩ ρ L (.bool a.isNone) := fun c w ha _ =>
 run_binOp c w ha hx hy (eqGuard_ptr ..) (by first | exact run_eql_pointer_nil w t a (by simp [Program.pointee, u.h]) | exact run_neq_pointer_nil w t a (by simp [Program.pointee, u.h]))
theorem Q_pneq {a : Option Addr} {el : Nat} [u : TyU P t (.pointer el)] (hx : ρ.ev x = some (.pointer a)) (hy : ρ.ev y = some (.pointer none)) : QOp P E n ⟨dst, .binOp .neq t x y t', ty, pos, after, g⟩ ρ L (.bool (!a.isNone)) := fun c w ha _ =>
 run_binOp c w ha hx hy (eqGuard_ptr ..) (by first | exact run_eql_pointer_nil w t a (by simp [Program.pointee]) | exact run_neq_pointer_nil w t a (by simp [Program.pointee, u.h]))
theorem Q_sindex {s : List UInt8} {k : IntKind} {i : Int} (j : Nat) [u : TyU P t .string] (hx : ρ.ev x = some (str s)) (hy : ρ.ev y = some (.int k i)) (hi : i = j) (hj : j < s.length) :
 QOp P E n ⟨dst, .index t x y, ty, pos, after, g⟩ ρ L (.int .u8 (s[j].toNat : Int)) := fun c w ha _ => by
 subst hi
 have h0 : 0 ≤ (j : Int) ∧ (j : Int) < (⟨s.toArray⟩ : ByteArray).size := by rw [size_str]; omega
 have h1 := run_index_string (P := P) w t ⟨s.toArray⟩ k j u.h
 rw [dif_pos h0] at h1
 simp only [execOp, ha.ev hx, ha.ev hy]
 simp [h1]
 rfl
end
/-! builtins that only compute -/
theorem run_bind_pure {α β : Type} (x : α) (f : α → Sem β) (w : World) : (do let d ← (pure x : Sem α); f d).run P w = (f x).run P w := rfl
theorem run_builtin {b : Builtin} {args : List Operand} {argTypes : Array TypeId} {vs : List Value} {r : Value} (a : Act) (w : World) (ha : Agrees a n ρ) (hx : ρ.evs args = some vs)
 (h : ∀ cs, (builtin b argTypes ty cs vs.toArray).run P w = .ok (.value r) w) :
 (execOp a.eval ⟨dst, .call ⟨.builtin b, args.toArray, argTypes⟩, ty, pos, after, g⟩).run P w = .ok (.value r) w := by
 simp only [execOp, resolve]
 simp only [invoke, run_bind_pure, List.map_toArray, ha.evs hx]
 exact h _
theorem Q_slen {t : Nat} {x : Operand} {s : List UInt8} [u : TyU P t .string] (hx : ρ.ev x = some (str s)) : QOp P E n ⟨dst, .call ⟨.builtin .len, #[x], #[t]⟩, ty, pos, after, g⟩ ρ L (.int .i64 (s.length : Int)) := fun a w ha _ =>
 run_builtin (args := [x]) (vs := [str s]) a w ha (by simp [Env.evs, hx]) (fun cs => by simp [builtin, Builtin.len_, run_underlying u.h, goInt, size_str])
theorem Q_min2 {t : Array Nat} {x y : Operand} {k : IntKind} {a b : Int} (hx : ρ.ev x = some (.int k a)) (hy : ρ.ev y = some (.int k b)) : QOp P E n ⟨dst, .call ⟨.builtin .min, #[x, y], t⟩, ty, pos, after, g⟩ ρ L (.int k (min a b)) := fun c w ha _ =>
 run_builtin (args := [x, y]) (vs := [.int k a, .int k b]) c w ha (by simp [Env.evs, hx, hy]) (fun cs => by simp [builtin, Builtin.min_, Builtin.min2]; omega)
theorem Q_max2 {t : Array Nat} {x y : Operand} {k : IntKind} {a b : Int} (hx : ρ.ev x = some (.int k a)) (hy : ρ.ev y = some (.int k b)) : QOp P E n ⟨dst, .call ⟨.builtin .max, #[x, y], t⟩, ty, pos, after, g⟩ ρ L (.int k (max a b)) := fun c w ha _ =>
 run_builtin (args := [x, y]) (vs := [.int k a, .int k b]) c w ha (by simp [Env.evs, hx, hy]) (fun cs => by simp [builtin, Builtin.max_, Builtin.max2]; omega)
end
end Go.SL
