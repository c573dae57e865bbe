/- A byte of a slot, spoilt. -/
import Derived.Test.YtjpkeibhimimpaaSnap5
set_option autoImplicit false
namespace Go.Proofs
open Go.SL
attribute [local irreducible] J JL QOp JOp seqQ blockQ loopQ retQ slc cel hex star pur stars Does RV Ent pAt
def by8 (z : Int) : UInt8 := UInt8.ofNat (z % 256).toNat
theorem u8_wrap (z : Int) : IntKind.u8.wrap z = ((by8 z).toNat : Int) := by
  have h : IntKind.u8.wrap z = ((BitVec.ofInt 8 z).toNat : Int) := by simp only [IntKind.wrap, show IntKind.u8.signed = false from rfl]; simp [IntKind.bits]; omega
  have h2 : (by8 z).toNat = (z % 256).toNat % 256 := rfl
  rw [h, BitVec.toNat_ofInt, h2]
  congr 1
  have : (z % ((2 ^ 8 : Nat) : Int)) = z % 256 := rfl
  rw [this]
  omega
def spoilAt (l : List UInt8) (at' by' : Int) : List UInt8 := l.set at'.toNat (l.getD at'.toNat 0 ^^^ by8 by')
/-- The slots behind a byte that was spoilt; was it? -/
def doSpoil (a b : List UInt8) (i at' by' : Int) : List UInt8 × List UInt8 × Bool :=
  if i < 0 ∨ 1 < i ∨ at' < 0 then (a, b, false)
  else if i = 0 then (if (a.length : Int) ≤ at' then (a, b, false) else (spoilAt a at' by', b, true))
  else (if (b.length : Int) ≤ at' then (a, b, false) else (a, spoilAt b at' by', true))
theorem spoil_ok (E : World) (p : Nat) (S T : SV) (a b : List UInt8) (i at' by' : Int) :
    Does Try.prog E 19 [.pointer (some ⟨p, 0, none⟩), .int .i64 i, .int .i64 at', .int .i64 by'] [cel p [S.v, T.v] 59, slc tB true S a, slc tB true T b] fun v L => v = .bool (doSpoil a b i at' by').2.2 ∧ L = [cel p [S.v, T.v] 59, slc tB true S (doSpoil a b i at' by').1, slc tB true T (doSpoil a b i at' by').2.1] := by
  refine Does.of Try.func19 rfl Try.ntmps19 rfl rfl fun F => ?_
  refine J.norm ?_
  repeat first
    | refine J_seq ?_
    | refine seqQ_normal ?_
    | refine J_condT rfl ?_
    | refine J_condF rfl ?_
    | refine J_block ?_
    | refine blockQ_normal ?_
    | refine J_exit ?_
    | refine seqQ_exit ?_
    | refine blockQ_hit ?_
    | refine blockQ_miss rfl ?_
    | refine J_skip ?_
    | refine J_ret ?_
    | refine seqQ_ret ?_
    | refine blockQ_ret ?_
    | refine loopQ_exit ?_
    | refine loopQ_ret ?_
    | refine J_label ?_
  refine J_region ?_
  refine L_q (Q_assign rfl) rfl rfl rfl ?_
  refine JL_nil ?_
  repeat first
    | refine J_seq ?_
    | refine seqQ_normal ?_
    | refine J_condT rfl ?_
    | refine J_condF rfl ?_
    | refine J_block ?_
    | refine blockQ_normal ?_
    | refine J_exit ?_
    | refine seqQ_exit ?_
    | refine blockQ_hit ?_
    | refine blockQ_miss rfl ?_
    | refine J_skip ?_
    | refine J_ret ?_
    | refine seqQ_ret ?_
    | refine blockQ_ret ?_
    | refine loopQ_exit ?_
    | refine loopQ_ret ?_
    | refine J_label ?_
  by_cases h1 : i < 0
  · have hd : doSpoil a b i at' by' = (a, b, false) := by unfold doSpoil; rw [if_pos (.inl h1)]
    repeat first
      | refine J_seq ?_
      | refine seqQ_normal ?_
      | refine J_condT rfl ?_
      | refine J_condF rfl ?_
      | refine J_block ?_
      | refine blockQ_normal ?_
      | refine J_exit ?_
      | refine seqQ_exit ?_
      | refine blockQ_hit ?_
      | refine blockQ_miss rfl ?_
      | refine J_skip ?_
      | refine J_ret ?_
      | refine seqQ_ret ?_
      | refine blockQ_ret ?_
      | refine loopQ_exit ?_
      | refine loopQ_ret ?_
      | refine J_label ?_
    refine J_region ?_
    refine L_q (Q_move rfl) rfl rfl rfl ?_
    refine L_q (Q_peql rfl rfl) rfl rfl rfl ?_
    refine L_q (Q_move rfl) rfl rfl rfl ?_
    refine L_q (Q_move rfl) rfl rfl rfl ?_
    refine L_q ((Q_lss rfl rfl).as (v' := .bool true) (congrArg Value.bool (decide_eq_true h1))) rfl rfl rfl ?_
    first
      | refine L_q (Q_pickT rfl rfl) rfl rfl rfl ?_
      | refine L_q (Q_pickF rfl rfl) rfl rfl rfl ?_
      | refine L_q (Q_pickB rfl rfl rfl) rfl rfl rfl ?_
    refine L_q (Q_move rfl) rfl rfl rfl ?_
    refine L_n rfl rfl rfl ?_
    refine L_n rfl rfl rfl ?_
    first
      | refine L_q (Q_pickT rfl rfl) rfl rfl rfl ?_
      | refine L_q (Q_pickF rfl rfl) rfl rfl rfl ?_
      | refine L_q (Q_pickB rfl rfl rfl) rfl rfl rfl ?_
    refine L_q (Q_move rfl) rfl rfl rfl ?_
    refine L_n rfl rfl rfl ?_
    refine L_n rfl rfl rfl ?_
    first
      | refine L_q (Q_pickT rfl rfl) rfl rfl rfl ?_
      | refine L_q (Q_pickF rfl rfl) rfl rfl rfl ?_
      | refine L_q (Q_pickB rfl rfl rfl) rfl rfl rfl ?_
    refine L_q (Q_move rfl) rfl rfl rfl ?_
    refine L_n rfl rfl rfl ?_
    refine L_n rfl rfl rfl ?_
    refine L_n rfl rfl rfl ?_
    refine L_n rfl rfl rfl ?_
    refine L_n rfl rfl rfl ?_
    refine L_n rfl rfl rfl ?_
    refine L_n rfl rfl rfl ?_
    refine L_n rfl rfl rfl ?_
    refine L_n rfl rfl rfl ?_
    refine L_n rfl rfl rfl ?_
    first
      | refine L_q (Q_pickT rfl rfl) rfl rfl rfl ?_
      | refine L_q (Q_pickF rfl rfl) rfl rfl rfl ?_
      | refine L_q (Q_pickB rfl rfl rfl) rfl rfl rfl ?_
    refine JL_nil ?_
    repeat first
      | refine J_seq ?_
      | refine seqQ_normal ?_
      | refine J_condT rfl ?_
      | refine J_condF rfl ?_
      | refine J_block ?_
      | refine blockQ_normal ?_
      | refine J_exit ?_
      | refine seqQ_exit ?_
      | refine blockQ_hit ?_
      | refine blockQ_miss rfl ?_
      | refine J_skip ?_
      | refine J_ret ?_
      | refine seqQ_ret ?_
      | refine blockQ_ret ?_
      | refine loopQ_exit ?_
      | refine loopQ_ret ?_
      | refine J_label ?_
    repeat first
      | refine J_seq ?_
      | refine seqQ_normal ?_
      | refine J_condT rfl ?_
      | refine J_condF rfl ?_
      | refine J_block ?_
      | refine blockQ_normal ?_
      | refine J_exit ?_
      | refine seqQ_exit ?_
      | refine blockQ_hit ?_
      | refine blockQ_miss rfl ?_
      | refine J_skip ?_
      | refine J_ret ?_
      | refine seqQ_ret ?_
      | refine blockQ_ret ?_
      | refine loopQ_exit ?_
      | refine loopQ_ret ?_
      | refine J_label ?_
    refine J_region ?_
    refine L_q (Q_assign rfl) rfl rfl rfl ?_
    refine JL_nil ?_
    repeat first
      | refine J_seq ?_
      | refine seqQ_normal ?_
      | refine J_condT rfl ?_
      | refine J_condF rfl ?_
      | refine J_block ?_
      | refine blockQ_normal ?_
      | refine J_exit ?_
      | refine seqQ_exit ?_
      | refine blockQ_hit ?_
      | refine blockQ_miss rfl ?_
      | refine J_skip ?_
      | refine J_ret ?_
      | refine seqQ_ret ?_
      | refine blockQ_ret ?_
      | refine loopQ_exit ?_
      | refine loopQ_ret ?_
      | refine J_label ?_
    exact retQ_ret _ [cel p [S.v, T.v] 59, slc tB true S a, slc tB true T b] (.cons (RV_tmp rfl) .nil) ⟨by rw [hd]; rfl, by rw [hd]⟩ (Ent.refl _)
  by_cases h2 : 1 < i
  · have hd : doSpoil a b i at' by' = (a, b, false) := by unfold doSpoil; rw [if_pos (.inr (.inl h2))]
    repeat first
      | refine J_seq ?_
      | refine seqQ_normal ?_
      | refine J_condT rfl ?_
      | refine J_condF rfl ?_
      | refine J_block ?_
      | refine blockQ_normal ?_
      | refine J_exit ?_
      | refine seqQ_exit ?_
      | refine blockQ_hit ?_
      | refine blockQ_miss rfl ?_
      | refine J_skip ?_
      | refine J_ret ?_
      | refine seqQ_ret ?_
      | refine blockQ_ret ?_
      | refine loopQ_exit ?_
      | refine loopQ_ret ?_
      | refine J_label ?_
    refine J_region ?_
    refine L_q (Q_move rfl) rfl rfl rfl ?_
    refine L_q (Q_peql rfl rfl) rfl rfl rfl ?_
    refine L_q (Q_move rfl) rfl rfl rfl ?_
    refine L_q (Q_move rfl) rfl rfl rfl ?_
    refine L_q ((Q_lss rfl rfl).as (v' := .bool false) (congrArg Value.bool (decide_eq_false h1))) rfl rfl rfl ?_
    first
      | refine L_q (Q_pickT rfl rfl) rfl rfl rfl ?_
      | refine L_q (Q_pickF rfl rfl) rfl rfl rfl ?_
      | refine L_q (Q_pickB rfl rfl rfl) rfl rfl rfl ?_
    refine L_q (Q_move rfl) rfl rfl rfl ?_
    refine L_q (Q_move rfl) rfl rfl rfl ?_
    refine L_q ((Q_gtr rfl rfl).as (v' := .bool true) (congrArg Value.bool (decide_eq_true h2))) rfl rfl rfl ?_
    first
      | refine L_q (Q_pickT rfl rfl) rfl rfl rfl ?_
      | refine L_q (Q_pickF rfl rfl) rfl rfl rfl ?_
      | refine L_q (Q_pickB rfl rfl rfl) rfl rfl rfl ?_
    refine L_q (Q_move rfl) rfl rfl rfl ?_
    refine L_n rfl rfl rfl ?_
    refine L_n rfl rfl rfl ?_
    first
      | refine L_q (Q_pickT rfl rfl) rfl rfl rfl ?_
      | refine L_q (Q_pickF rfl rfl) rfl rfl rfl ?_
      | refine L_q (Q_pickB rfl rfl rfl) rfl rfl rfl ?_
    refine L_q (Q_move rfl) rfl rfl rfl ?_
    refine L_n rfl rfl rfl ?_
    refine L_n rfl rfl rfl ?_
    refine L_n rfl rfl rfl ?_
    refine L_n rfl rfl rfl ?_
    refine L_n rfl rfl rfl ?_
    refine L_n rfl rfl rfl ?_
    refine L_n rfl rfl rfl ?_
    refine L_n rfl rfl rfl ?_
    refine L_n rfl rfl rfl ?_
    refine L_n rfl rfl rfl ?_
    first
      | refine L_q (Q_pickT rfl rfl) rfl rfl rfl ?_
      | refine L_q (Q_pickF rfl rfl) rfl rfl rfl ?_
      | refine L_q (Q_pickB rfl rfl rfl) rfl rfl rfl ?_
    refine JL_nil ?_
    repeat first
      | refine J_seq ?_
      | refine seqQ_normal ?_
      | refine J_condT rfl ?_
      | refine J_condF rfl ?_
      | refine J_block ?_
      | refine blockQ_normal ?_
      | refine J_exit ?_
      | refine seqQ_exit ?_
      | refine blockQ_hit ?_
      | refine blockQ_miss rfl ?_
      | refine J_skip ?_
      | refine J_ret ?_
      | refine seqQ_ret ?_
      | refine blockQ_ret ?_
      | refine loopQ_exit ?_
      | refine loopQ_ret ?_
      | refine J_label ?_
    repeat first
      | refine J_seq ?_
      | refine seqQ_normal ?_
      | refine J_condT rfl ?_
      | refine J_condF rfl ?_
      | refine J_block ?_
      | refine blockQ_normal ?_
      | refine J_exit ?_
      | refine seqQ_exit ?_
      | refine blockQ_hit ?_
      | refine blockQ_miss rfl ?_
      | refine J_skip ?_
      | refine J_ret ?_
      | refine seqQ_ret ?_
      | refine blockQ_ret ?_
      | refine loopQ_exit ?_
      | refine loopQ_ret ?_
      | refine J_label ?_
    refine J_region ?_
    refine L_q (Q_assign rfl) rfl rfl rfl ?_
    refine JL_nil ?_
    repeat first
      | refine J_seq ?_
      | refine seqQ_normal ?_
      | refine J_condT rfl ?_
      | refine J_condF rfl ?_
      | refine J_block ?_
      | refine blockQ_normal ?_
      | refine J_exit ?_
      | refine seqQ_exit ?_
      | refine blockQ_hit ?_
      | refine blockQ_miss rfl ?_
      | refine J_skip ?_
      | refine J_ret ?_
      | refine seqQ_ret ?_
      | refine blockQ_ret ?_
      | refine loopQ_exit ?_
      | refine loopQ_ret ?_
      | refine J_label ?_
    exact retQ_ret _ [cel p [S.v, T.v] 59, slc tB true S a, slc tB true T b] (.cons (RV_tmp rfl) .nil) ⟨by rw [hd]; rfl, by rw [hd]⟩ (Ent.refl _)
  by_cases h3 : at' < 0
  · have hd : doSpoil a b i at' by' = (a, b, false) := by unfold doSpoil; rw [if_pos (.inr (.inr h3))]
    repeat first
      | refine J_seq ?_
      | refine seqQ_normal ?_
      | refine J_condT rfl ?_
      | refine J_condF rfl ?_
      | refine J_block ?_
      | refine blockQ_normal ?_
      | refine J_exit ?_
      | refine seqQ_exit ?_
      | refine blockQ_hit ?_
      | refine blockQ_miss rfl ?_
      | refine J_skip ?_
      | refine J_ret ?_
      | refine seqQ_ret ?_
      | refine blockQ_ret ?_
      | refine loopQ_exit ?_
      | refine loopQ_ret ?_
      | refine J_label ?_
    refine J_region ?_
    refine L_q (Q_move rfl) rfl rfl rfl ?_
    refine L_q (Q_peql rfl rfl) rfl rfl rfl ?_
    refine L_q (Q_move rfl) rfl rfl rfl ?_
    refine L_q (Q_move rfl) rfl rfl rfl ?_
    refine L_q ((Q_lss rfl rfl).as (v' := .bool false) (congrArg Value.bool (decide_eq_false h1))) rfl rfl rfl ?_
    first
      | refine L_q (Q_pickT rfl rfl) rfl rfl rfl ?_
      | refine L_q (Q_pickF rfl rfl) rfl rfl rfl ?_
      | refine L_q (Q_pickB rfl rfl rfl) rfl rfl rfl ?_
    refine L_q (Q_move rfl) rfl rfl rfl ?_
    refine L_q (Q_move rfl) rfl rfl rfl ?_
    refine L_q ((Q_gtr rfl rfl).as (v' := .bool false) (congrArg Value.bool (decide_eq_false h2))) rfl rfl rfl ?_
    first
      | refine L_q (Q_pickT rfl rfl) rfl rfl rfl ?_
      | refine L_q (Q_pickF rfl rfl) rfl rfl rfl ?_
      | refine L_q (Q_pickB rfl rfl rfl) rfl rfl rfl ?_
    refine L_q (Q_move rfl) rfl rfl rfl ?_
    refine L_q (Q_move rfl) rfl rfl rfl ?_
    refine L_q ((Q_lss rfl rfl).as (v' := .bool true) (congrArg Value.bool (decide_eq_true h3))) rfl rfl rfl ?_
    first
      | refine L_q (Q_pickT rfl rfl) rfl rfl rfl ?_
      | refine L_q (Q_pickF rfl rfl) rfl rfl rfl ?_
      | refine L_q (Q_pickB rfl rfl rfl) rfl rfl rfl ?_
    refine L_q (Q_move rfl) rfl rfl rfl ?_
    refine L_n rfl rfl rfl ?_
    refine L_n rfl rfl rfl ?_
    refine L_n rfl rfl rfl ?_
    refine L_n rfl rfl rfl ?_
    refine L_n rfl rfl rfl ?_
    refine L_n rfl rfl rfl ?_
    refine L_n rfl rfl rfl ?_
    refine L_n rfl rfl rfl ?_
    refine L_n rfl rfl rfl ?_
    refine L_n rfl rfl rfl ?_
    first
      | refine L_q (Q_pickT rfl rfl) rfl rfl rfl ?_
      | refine L_q (Q_pickF rfl rfl) rfl rfl rfl ?_
      | refine L_q (Q_pickB rfl rfl rfl) rfl rfl rfl ?_
    refine JL_nil ?_
    repeat first
      | refine J_seq ?_
      | refine seqQ_normal ?_
      | refine J_condT rfl ?_
      | refine J_condF rfl ?_
      | refine J_block ?_
      | refine blockQ_normal ?_
      | refine J_exit ?_
      | refine seqQ_exit ?_
      | refine blockQ_hit ?_
      | refine blockQ_miss rfl ?_
      | refine J_skip ?_
      | refine J_ret ?_
      | refine seqQ_ret ?_
      | refine blockQ_ret ?_
      | refine loopQ_exit ?_
      | refine loopQ_ret ?_
      | refine J_label ?_
    repeat first
      | refine J_seq ?_
      | refine seqQ_normal ?_
      | refine J_condT rfl ?_
      | refine J_condF rfl ?_
      | refine J_block ?_
      | refine blockQ_normal ?_
      | refine J_exit ?_
      | refine seqQ_exit ?_
      | refine blockQ_hit ?_
      | refine blockQ_miss rfl ?_
      | refine J_skip ?_
      | refine J_ret ?_
      | refine seqQ_ret ?_
      | refine blockQ_ret ?_
      | refine loopQ_exit ?_
      | refine loopQ_ret ?_
      | refine J_label ?_
    refine J_region ?_
    refine L_q (Q_assign rfl) rfl rfl rfl ?_
    refine JL_nil ?_
    repeat first
      | refine J_seq ?_
      | refine seqQ_normal ?_
      | refine J_condT rfl ?_
      | refine J_condF rfl ?_
      | refine J_block ?_
      | refine blockQ_normal ?_
      | refine J_exit ?_
      | refine seqQ_exit ?_
      | refine blockQ_hit ?_
      | refine blockQ_miss rfl ?_
      | refine J_skip ?_
      | refine J_ret ?_
      | refine seqQ_ret ?_
      | refine blockQ_ret ?_
      | refine loopQ_exit ?_
      | refine loopQ_ret ?_
      | refine J_label ?_
    exact retQ_ret _ [cel p [S.v, T.v] 59, slc tB true S a, slc tB true T b] (.cons (RV_tmp rfl) .nil) ⟨by rw [hd]; rfl, by rw [hd]⟩ (Ent.refl _)
  obtain ⟨k, rfl⟩ : ∃ k : Nat, at' = (k : Int) := ⟨at'.toNat, by omega⟩
  rcases (show i = 0 ∨ i = 1 by omega) with rfl | rfl
  · have hd0 : doSpoil a b 0 (k : Int) by' = if (a.length : Int) ≤ (k : Int) then (a, b, false) else (spoilAt a (k : Int) by', b, true) := by unfold doSpoil; rw [if_neg (by omega)]; rfl
    repeat first
      | refine J_seq ?_
      | refine seqQ_normal ?_
      | refine J_condT rfl ?_
      | refine J_condF rfl ?_
      | refine J_block ?_
      | refine blockQ_normal ?_
      | refine J_exit ?_
      | refine seqQ_exit ?_
      | refine blockQ_hit ?_
      | refine blockQ_miss rfl ?_
      | refine J_skip ?_
      | refine J_ret ?_
      | refine seqQ_ret ?_
      | refine blockQ_ret ?_
      | refine loopQ_exit ?_
      | refine loopQ_ret ?_
      | refine J_label ?_
    refine J_region ?_
    refine L_q (Q_move rfl) rfl rfl rfl ?_
    refine L_q (Q_peql rfl rfl) rfl rfl rfl ?_
    refine L_q (Q_move rfl) rfl rfl rfl ?_
    refine L_q (Q_move rfl) rfl rfl rfl ?_
    refine L_q ((Q_lss rfl rfl).as (v' := .bool false) (congrArg Value.bool (decide_eq_false h1))) rfl rfl rfl ?_
    first
      | refine L_q (Q_pickT rfl rfl) rfl rfl rfl ?_
      | refine L_q (Q_pickF rfl rfl) rfl rfl rfl ?_
      | refine L_q (Q_pickB rfl rfl rfl) rfl rfl rfl ?_
    refine L_q (Q_move rfl) rfl rfl rfl ?_
    refine L_q (Q_move rfl) rfl rfl rfl ?_
    refine L_q ((Q_gtr rfl rfl).as (v' := .bool false) (congrArg Value.bool (decide_eq_false h2))) rfl rfl rfl ?_
    first
      | refine L_q (Q_pickT rfl rfl) rfl rfl rfl ?_
      | refine L_q (Q_pickF rfl rfl) rfl rfl rfl ?_
      | refine L_q (Q_pickB rfl rfl rfl) rfl rfl rfl ?_
    refine L_q (Q_move rfl) rfl rfl rfl ?_
    refine L_q (Q_move rfl) rfl rfl rfl ?_
    refine L_q ((Q_lss rfl rfl).as (v' := .bool false) (congrArg Value.bool (decide_eq_false h3))) rfl rfl rfl ?_
    first
      | refine L_q (Q_pickT rfl rfl) rfl rfl rfl ?_
      | refine L_q (Q_pickF rfl rfl) rfl rfl rfl ?_
      | refine L_q (Q_pickB rfl rfl rfl) rfl rfl rfl ?_
    refine L_q (Q_move rfl) rfl rfl rfl ?_
    refine L_q (Q_move rfl) rfl rfl rfl ?_
    refine L_q (Q_move rfl) rfl rfl rfl ?_
    refine L_q (Q_move rfl) rfl rfl rfl ?_
    first
      | refine L_q (Q_pnil rfl) rfl rfl rfl ?_
      | refine L_q (Q_nilCheck rfl) rfl rfl rfl ?_
    first
      | refine L_q (Q_fa0 rfl) rfl rfl rfl ?_
      | refine L_q (Q_fa rfl rfl) rfl rfl rfl ?_
      | refine L_q (Q_pfa rfl) rfl rfl rfl ?_
    refine L_q (Q_ia (o' := 0) 0 rfl rfl rfl (by decide) (by decide)) rfl rfl rfl ?_
    first
      | refine L_q (Q_fa0 rfl) rfl rfl rfl ?_
      | refine L_q (Q_fa rfl rfl) rfl rfl rfl ?_
      | refine L_q (Q_pfa rfl) rfl rfl rfl ?_
    first
      | refine L_q (Q_ld 0 rfl rfl rfl rfl) rfl rfl rfl ?_
      | refine L_q (Q_ld 1 rfl rfl rfl rfl) rfl rfl rfl ?_
      | refine L_q (Q_ld 2 rfl rfl rfl rfl) rfl rfl rfl ?_
      | refine L_q (Q_ld 3 rfl rfl rfl rfl) rfl rfl rfl ?_
      | refine L_q (Q_ld 4 rfl rfl rfl rfl) rfl rfl rfl ?_
    first
      | refine L_q (Q_lenAt 0 rfl rfl) rfl rfl rfl ?_
      | refine L_q (Q_lenAt 1 rfl rfl) rfl rfl rfl ?_
      | refine L_q (Q_lenAt 2 rfl rfl) rfl rfl rfl ?_
      | refine L_q (Q_lenAt 3 rfl rfl) rfl rfl rfl ?_
      | refine L_q (Q_lenAt 4 rfl rfl) rfl rfl rfl ?_
    refine L_q (Q_geq rfl rfl) rfl rfl rfl ?_
    first
      | refine L_q (Q_pickT rfl rfl) rfl rfl rfl ?_
      | refine L_q (Q_pickF rfl rfl) rfl rfl rfl ?_
      | refine L_q (Q_pickB rfl rfl rfl) rfl rfl rfl ?_
    refine JL_nil ?_
    repeat first
      | refine J_seq ?_
      | refine seqQ_normal ?_
      | refine J_condT rfl ?_
      | refine J_condF rfl ?_
      | refine J_block ?_
      | refine blockQ_normal ?_
      | refine J_exit ?_
      | refine seqQ_exit ?_
      | refine blockQ_hit ?_
      | refine blockQ_miss rfl ?_
      | refine J_skip ?_
      | refine J_ret ?_
      | refine seqQ_ret ?_
      | refine blockQ_ret ?_
      | refine loopQ_exit ?_
      | refine loopQ_ret ?_
      | refine J_label ?_
    refine J_condD rfl (fun h4 => ?_) (fun h4 => ?_)
    · repeat first
        | refine J_seq ?_
        | refine seqQ_normal ?_
        | refine J_condT rfl ?_
        | refine J_condF rfl ?_
        | refine J_block ?_
        | refine blockQ_normal ?_
        | refine J_exit ?_
        | refine seqQ_exit ?_
        | refine blockQ_hit ?_
        | refine blockQ_miss rfl ?_
        | refine J_skip ?_
        | refine J_ret ?_
        | refine seqQ_ret ?_
        | refine blockQ_ret ?_
        | refine loopQ_exit ?_
        | refine loopQ_ret ?_
        | refine J_label ?_
      refine J_region ?_
      refine L_q (Q_assign rfl) rfl rfl rfl ?_
      refine JL_nil ?_
      repeat first
        | refine J_seq ?_
        | refine seqQ_normal ?_
        | refine J_condT rfl ?_
        | refine J_condF rfl ?_
        | refine J_block ?_
        | refine blockQ_normal ?_
        | refine J_exit ?_
        | refine seqQ_exit ?_
        | refine blockQ_hit ?_
        | refine blockQ_miss rfl ?_
        | refine J_skip ?_
        | refine J_ret ?_
        | refine seqQ_ret ?_
        | refine blockQ_ret ?_
        | refine loopQ_exit ?_
        | refine loopQ_ret ?_
        | refine J_label ?_
      exact retQ_ret _ [cel p [S.v, T.v] 59, slc tB true S a, slc tB true T b] (.cons (RV_tmp rfl) .nil) ⟨by rw [hd0, if_pos h4]; rfl, by rw [hd0, if_pos h4]⟩ (Ent.refl _)
    · have hk : k < a.length := by omega
      have hd : doSpoil a b 0 (k : Int) by' = (a.set k (a[k] ^^^ by8 by'), b, true) := by
        rw [hd0, if_neg h4]
        simp only [spoilAt, Int.toNat_natCast, List.getD_eq_getElem?_getD, List.getElem?_eq_getElem hk, Option.getD_some]
      have hb1 := a[k].toNat_lt
      have hb2 := (by8 by').toNat_lt
      repeat first
        | refine J_seq ?_
        | refine seqQ_normal ?_
        | refine J_condT rfl ?_
        | refine J_condF rfl ?_
        | refine J_block ?_
        | refine blockQ_normal ?_
        | refine J_exit ?_
        | refine seqQ_exit ?_
        | refine blockQ_hit ?_
        | refine blockQ_miss rfl ?_
        | refine J_skip ?_
        | refine J_ret ?_
        | refine seqQ_ret ?_
        | refine blockQ_ret ?_
        | refine loopQ_exit ?_
        | refine loopQ_ret ?_
        | refine J_label ?_
      refine J_region ?_
      refine L_q (Q_move rfl) rfl rfl rfl ?_
      refine L_q (Q_move rfl) rfl rfl rfl ?_
      first
        | refine L_q (Q_pnil rfl) rfl rfl rfl ?_
        | refine L_q (Q_nilCheck rfl) rfl rfl rfl ?_
      first
        | refine L_q (Q_fa0 rfl) rfl rfl rfl ?_
        | refine L_q (Q_fa rfl rfl) rfl rfl rfl ?_
        | refine L_q (Q_pfa rfl) rfl rfl rfl ?_
      refine L_q (Q_ia (o' := 0) 0 rfl rfl rfl (by decide) (by decide)) rfl rfl rfl ?_
      first
        | refine L_q (Q_fa0 rfl) rfl rfl rfl ?_
        | refine L_q (Q_fa rfl rfl) rfl rfl rfl ?_
        | refine L_q (Q_pfa rfl) rfl rfl rfl ?_
      first
        | refine L_q (Q_ld 0 rfl rfl rfl rfl) rfl rfl rfl ?_
        | refine L_q (Q_ld 1 rfl rfl rfl rfl) rfl rfl rfl ?_
        | refine L_q (Q_ld 2 rfl rfl rfl rfl) rfl rfl rfl ?_
        | refine L_q (Q_ld 3 rfl rfl rfl rfl) rfl rfl rfl ?_
        | refine L_q (Q_ld 4 rfl rfl rfl rfl) rfl rfl rfl ?_
      refine L_q (Q_move rfl) rfl rfl rfl ?_
      refine L_q (Q_ixAt 1 k rfl rfl rfl rfl hk rfl) rfl rfl rfl ?_
      refine L_q (Q_ldEAt 1 k 0 (v := .int .u8 (a[k].toNat : Int)) rfl rfl rfl rfl hk (by decide) rfl) rfl rfl rfl ?_
      refine L_q (Q_move rfl) rfl rfl rfl ?_
      refine L_q (Q_cvt rfl (u8_wrap by')) rfl rfl rfl ?_
      refine L_q (Q_xorN a[k].toNat (by8 by').toNat rfl rfl rfl rfl hb1 hb2) rfl rfl rfl ?_
      refine L_q (Q_ixAt 1 k rfl rfl rfl rfl hk rfl) rfl rfl rfl ?_
      refine L_s rfl rfl (O_stE (sz := 1) 1 k 0 (a[k] ^^^ by8 by') rfl rfl rfl rfl rfl rfl (by simp [Value.oneCell', Value.cells]) hk (by decide) rfl ?_)
      refine JL.norm ?_
      refine JL_nil ?_
      repeat first
        | refine J_seq ?_
        | refine seqQ_normal ?_
        | refine J_condT rfl ?_
        | refine J_condF rfl ?_
        | refine J_block ?_
        | refine blockQ_normal ?_
        | refine J_exit ?_
        | refine seqQ_exit ?_
        | refine blockQ_hit ?_
        | refine blockQ_miss rfl ?_
        | refine J_skip ?_
        | refine J_ret ?_
        | refine seqQ_ret ?_
        | refine blockQ_ret ?_
        | refine loopQ_exit ?_
        | refine loopQ_ret ?_
        | refine J_label ?_
      repeat first
        | refine J_seq ?_
        | refine seqQ_normal ?_
        | refine J_condT rfl ?_
        | refine J_condF rfl ?_
        | refine J_block ?_
        | refine blockQ_normal ?_
        | refine J_exit ?_
        | refine seqQ_exit ?_
        | refine blockQ_hit ?_
        | refine blockQ_miss rfl ?_
        | refine J_skip ?_
        | refine J_ret ?_
        | refine seqQ_ret ?_
        | refine blockQ_ret ?_
        | refine loopQ_exit ?_
        | refine loopQ_ret ?_
        | refine J_label ?_
      refine J_region ?_
      refine L_q (Q_assign rfl) rfl rfl rfl ?_
      refine JL_nil ?_
      repeat first
        | refine J_seq ?_
        | refine seqQ_normal ?_
        | refine J_condT rfl ?_
        | refine J_condF rfl ?_
        | refine J_block ?_
        | refine blockQ_normal ?_
        | refine J_exit ?_
        | refine seqQ_exit ?_
        | refine blockQ_hit ?_
        | refine blockQ_miss rfl ?_
        | refine J_skip ?_
        | refine J_ret ?_
        | refine seqQ_ret ?_
        | refine blockQ_ret ?_
        | refine loopQ_exit ?_
        | refine loopQ_ret ?_
        | refine J_label ?_
      exact retQ_ret _ [cel p [S.v, T.v] 59, slc tB true S (a.set k (a[k] ^^^ by8 by')), slc tB true T b] (.cons (RV_tmp rfl) .nil) ⟨by rw [hd]; rfl, by rw [hd]⟩ (Ent.refl _)
  · have hd0 : doSpoil a b 1 (k : Int) by' = if (b.length : Int) ≤ (k : Int) then (a, b, false) else (a, spoilAt b (k : Int) by', true) := by unfold doSpoil; rw [if_neg (by omega)]; rfl
    repeat first
      | refine J_seq ?_
      | refine seqQ_normal ?_
      | refine J_condT rfl ?_
      | refine J_condF rfl ?_
      | refine J_block ?_
      | refine blockQ_normal ?_
      | refine J_exit ?_
      | refine seqQ_exit ?_
      | refine blockQ_hit ?_
      | refine blockQ_miss rfl ?_
      | refine J_skip ?_
      | refine J_ret ?_
      | refine seqQ_ret ?_
      | refine blockQ_ret ?_
      | refine loopQ_exit ?_
      | refine loopQ_ret ?_
      | refine J_label ?_
    refine J_region ?_
    refine L_q (Q_move rfl) rfl rfl rfl ?_
    refine L_q (Q_peql rfl rfl) rfl rfl rfl ?_
    refine L_q (Q_move rfl) rfl rfl rfl ?_
    refine L_q (Q_move rfl) rfl rfl rfl ?_
    refine L_q ((Q_lss rfl rfl).as (v' := .bool false) (congrArg Value.bool (decide_eq_false h1))) rfl rfl rfl ?_
    first
      | refine L_q (Q_pickT rfl rfl) rfl rfl rfl ?_
      | refine L_q (Q_pickF rfl rfl) rfl rfl rfl ?_
      | refine L_q (Q_pickB rfl rfl rfl) rfl rfl rfl ?_
    refine L_q (Q_move rfl) rfl rfl rfl ?_
    refine L_q (Q_move rfl) rfl rfl rfl ?_
    refine L_q ((Q_gtr rfl rfl).as (v' := .bool false) (congrArg Value.bool (decide_eq_false h2))) rfl rfl rfl ?_
    first
      | refine L_q (Q_pickT rfl rfl) rfl rfl rfl ?_
      | refine L_q (Q_pickF rfl rfl) rfl rfl rfl ?_
      | refine L_q (Q_pickB rfl rfl rfl) rfl rfl rfl ?_
    refine L_q (Q_move rfl) rfl rfl rfl ?_
    refine L_q (Q_move rfl) rfl rfl rfl ?_
    refine L_q ((Q_lss rfl rfl).as (v' := .bool false) (congrArg Value.bool (decide_eq_false h3))) rfl rfl rfl ?_
    first
      | refine L_q (Q_pickT rfl rfl) rfl rfl rfl ?_
      | refine L_q (Q_pickF rfl rfl) rfl rfl rfl ?_
      | refine L_q (Q_pickB rfl rfl rfl) rfl rfl rfl ?_
    refine L_q (Q_move rfl) rfl rfl rfl ?_
    refine L_q (Q_move rfl) rfl rfl rfl ?_
    refine L_q (Q_move rfl) rfl rfl rfl ?_
    refine L_q (Q_move rfl) rfl rfl rfl ?_
    first
      | refine L_q (Q_pnil rfl) rfl rfl rfl ?_
      | refine L_q (Q_nilCheck rfl) rfl rfl rfl ?_
    first
      | refine L_q (Q_fa0 rfl) rfl rfl rfl ?_
      | refine L_q (Q_fa rfl rfl) rfl rfl rfl ?_
      | refine L_q (Q_pfa rfl) rfl rfl rfl ?_
    refine L_q (Q_ia (o' := 1) 1 rfl rfl rfl (by decide) (by decide)) rfl rfl rfl ?_
    first
      | refine L_q (Q_fa0 rfl) rfl rfl rfl ?_
      | refine L_q (Q_fa rfl rfl) rfl rfl rfl ?_
      | refine L_q (Q_pfa rfl) rfl rfl rfl ?_
    first
      | refine L_q (Q_ld 0 rfl rfl rfl rfl) rfl rfl rfl ?_
      | refine L_q (Q_ld 1 rfl rfl rfl rfl) rfl rfl rfl ?_
      | refine L_q (Q_ld 2 rfl rfl rfl rfl) rfl rfl rfl ?_
      | refine L_q (Q_ld 3 rfl rfl rfl rfl) rfl rfl rfl ?_
      | refine L_q (Q_ld 4 rfl rfl rfl rfl) rfl rfl rfl ?_
    first
      | refine L_q (Q_lenAt 0 rfl rfl) rfl rfl rfl ?_
      | refine L_q (Q_lenAt 1 rfl rfl) rfl rfl rfl ?_
      | refine L_q (Q_lenAt 2 rfl rfl) rfl rfl rfl ?_
      | refine L_q (Q_lenAt 3 rfl rfl) rfl rfl rfl ?_
      | refine L_q (Q_lenAt 4 rfl rfl) rfl rfl rfl ?_
    refine L_q (Q_geq rfl rfl) rfl rfl rfl ?_
    first
      | refine L_q (Q_pickT rfl rfl) rfl rfl rfl ?_
      | refine L_q (Q_pickF rfl rfl) rfl rfl rfl ?_
      | refine L_q (Q_pickB rfl rfl rfl) rfl rfl rfl ?_
    refine JL_nil ?_
    repeat first
      | refine J_seq ?_
      | refine seqQ_normal ?_
      | refine J_condT rfl ?_
      | refine J_condF rfl ?_
      | refine J_block ?_
      | refine blockQ_normal ?_
      | refine J_exit ?_
      | refine seqQ_exit ?_
      | refine blockQ_hit ?_
      | refine blockQ_miss rfl ?_
      | refine J_skip ?_
      | refine J_ret ?_
      | refine seqQ_ret ?_
      | refine blockQ_ret ?_
      | refine loopQ_exit ?_
      | refine loopQ_ret ?_
      | refine J_label ?_
    refine J_condD rfl (fun h4 => ?_) (fun h4 => ?_)
    · repeat first
        | refine J_seq ?_
        | refine seqQ_normal ?_
        | refine J_condT rfl ?_
        | refine J_condF rfl ?_
        | refine J_block ?_
        | refine blockQ_normal ?_
        | refine J_exit ?_
        | refine seqQ_exit ?_
        | refine blockQ_hit ?_
        | refine blockQ_miss rfl ?_
        | refine J_skip ?_
        | refine J_ret ?_
        | refine seqQ_ret ?_
        | refine blockQ_ret ?_
        | refine loopQ_exit ?_
        | refine loopQ_ret ?_
        | refine J_label ?_
      refine J_region ?_
      refine L_q (Q_assign rfl) rfl rfl rfl ?_
      refine JL_nil ?_
      repeat first
        | refine J_seq ?_
        | refine seqQ_normal ?_
        | refine J_condT rfl ?_
        | refine J_condF rfl ?_
        | refine J_block ?_
        | refine blockQ_normal ?_
        | refine J_exit ?_
        | refine seqQ_exit ?_
        | refine blockQ_hit ?_
        | refine blockQ_miss rfl ?_
        | refine J_skip ?_
        | refine J_ret ?_
        | refine seqQ_ret ?_
        | refine blockQ_ret ?_
        | refine loopQ_exit ?_
        | refine loopQ_ret ?_
        | refine J_label ?_
      exact retQ_ret _ [cel p [S.v, T.v] 59, slc tB true S a, slc tB true T b] (.cons (RV_tmp rfl) .nil) ⟨by rw [hd0, if_pos h4]; rfl, by rw [hd0, if_pos h4]⟩ (Ent.refl _)
    · have hk : k < b.length := by omega
      have hd : doSpoil a b 1 (k : Int) by' = (a, b.set k (b[k] ^^^ by8 by'), true) := by
        rw [hd0, if_neg h4]
        simp only [spoilAt, Int.toNat_natCast, List.getD_eq_getElem?_getD, List.getElem?_eq_getElem hk, Option.getD_some]
      have hb1 := b[k].toNat_lt
      have hb2 := (by8 by').toNat_lt
      repeat first
        | refine J_seq ?_
        | refine seqQ_normal ?_
        | refine J_condT rfl ?_
        | refine J_condF rfl ?_
        | refine J_block ?_
        | refine blockQ_normal ?_
        | refine J_exit ?_
        | refine seqQ_exit ?_
        | refine blockQ_hit ?_
        | refine blockQ_miss rfl ?_
        | refine J_skip ?_
        | refine J_ret ?_
        | refine seqQ_ret ?_
        | refine blockQ_ret ?_
        | refine loopQ_exit ?_
        | refine loopQ_ret ?_
        | refine J_label ?_
      refine J_region ?_
      refine L_q (Q_move rfl) rfl rfl rfl ?_
      refine L_q (Q_move rfl) rfl rfl rfl ?_
      first
        | refine L_q (Q_pnil rfl) rfl rfl rfl ?_
        | refine L_q (Q_nilCheck rfl) rfl rfl rfl ?_
      first
        | refine L_q (Q_fa0 rfl) rfl rfl rfl ?_
        | refine L_q (Q_fa rfl rfl) rfl rfl rfl ?_
        | refine L_q (Q_pfa rfl) rfl rfl rfl ?_
      refine L_q (Q_ia (o' := 1) 1 rfl rfl rfl (by decide) (by decide)) rfl rfl rfl ?_
      first
        | refine L_q (Q_fa0 rfl) rfl rfl rfl ?_
        | refine L_q (Q_fa rfl rfl) rfl rfl rfl ?_
        | refine L_q (Q_pfa rfl) rfl rfl rfl ?_
      first
        | refine L_q (Q_ld 0 rfl rfl rfl rfl) rfl rfl rfl ?_
        | refine L_q (Q_ld 1 rfl rfl rfl rfl) rfl rfl rfl ?_
        | refine L_q (Q_ld 2 rfl rfl rfl rfl) rfl rfl rfl ?_
        | refine L_q (Q_ld 3 rfl rfl rfl rfl) rfl rfl rfl ?_
        | refine L_q (Q_ld 4 rfl rfl rfl rfl) rfl rfl rfl ?_
      refine L_q (Q_move rfl) rfl rfl rfl ?_
      refine L_q (Q_ixAt 2 k rfl rfl rfl rfl hk rfl) rfl rfl rfl ?_
      refine L_q (Q_ldEAt 2 k 0 (v := .int .u8 (b[k].toNat : Int)) rfl rfl rfl rfl hk (by decide) rfl) rfl rfl rfl ?_
      refine L_q (Q_move rfl) rfl rfl rfl ?_
      refine L_q (Q_cvt rfl (u8_wrap by')) rfl rfl rfl ?_
      refine L_q (Q_xorN b[k].toNat (by8 by').toNat rfl rfl rfl rfl hb1 hb2) rfl rfl rfl ?_
      refine L_q (Q_ixAt 2 k rfl rfl rfl rfl hk rfl) rfl rfl rfl ?_
      refine L_s rfl rfl (O_stE (sz := 1) 2 k 0 (b[k] ^^^ by8 by') rfl rfl rfl rfl rfl rfl (by simp [Value.oneCell', Value.cells]) hk (by decide) rfl ?_)
      refine JL.norm ?_
      refine JL_nil ?_
      repeat first
        | refine J_seq ?_
        | refine seqQ_normal ?_
        | refine J_condT rfl ?_
        | refine J_condF rfl ?_
        | refine J_block ?_
        | refine blockQ_normal ?_
        | refine J_exit ?_
        | refine seqQ_exit ?_
        | refine blockQ_hit ?_
        | refine blockQ_miss rfl ?_
        | refine J_skip ?_
        | refine J_ret ?_
        | refine seqQ_ret ?_
        | refine blockQ_ret ?_
        | refine loopQ_exit ?_
        | refine loopQ_ret ?_
        | refine J_label ?_
      repeat first
        | refine J_seq ?_
        | refine seqQ_normal ?_
        | refine J_condT rfl ?_
        | refine J_condF rfl ?_
        | refine J_block ?_
        | refine blockQ_normal ?_
        | refine J_exit ?_
        | refine seqQ_exit ?_
        | refine blockQ_hit ?_
        | refine blockQ_miss rfl ?_
        | refine J_skip ?_
        | refine J_ret ?_
        | refine seqQ_ret ?_
        | refine blockQ_ret ?_
        | refine loopQ_exit ?_
        | refine loopQ_ret ?_
        | refine J_label ?_
      refine J_region ?_
      refine L_q (Q_assign rfl) rfl rfl rfl ?_
      refine JL_nil ?_
      repeat first
        | refine J_seq ?_
        | refine seqQ_normal ?_
        | refine J_condT rfl ?_
        | refine J_condF rfl ?_
        | refine J_block ?_
        | refine blockQ_normal ?_
        | refine J_exit ?_
        | refine seqQ_exit ?_
        | refine blockQ_hit ?_
        | refine blockQ_miss rfl ?_
        | refine J_skip ?_
        | refine J_ret ?_
        | refine seqQ_ret ?_
        | refine blockQ_ret ?_
        | refine loopQ_exit ?_
        | refine loopQ_ret ?_
        | refine J_label ?_
      exact retQ_ret _ [cel p [S.v, T.v] 59, slc tB true S a, slc tB true T (b.set k (b[k] ^^^ by8 by'))] (.cons (RV_tmp rfl) .nil) ⟨by rw [hd]; rfl, by rw [hd]⟩ (Ent.refl _)
end Go.Proofs
