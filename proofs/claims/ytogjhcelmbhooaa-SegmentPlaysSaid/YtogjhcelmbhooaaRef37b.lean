/- The document's sum, walked. -/
import Derived.Test.YtogjhcelmbhooaaSl14
import Derived.Test.YtogjhcelmbhooaaTysD
import Derived.Test.YtogjhcelmbhooaaCrcP
set_option autoImplicit false
namespace Go.Proofs
open Go.SL
attribute [local irreducible] J JL QOp JOp seqQ blockQ loopQ retQ slc cel hex star pur stars Does RV Ent pAt
theorem rsum_ok (E : World) (s : List UInt8) (hs : s.length ≤ 100000000) : Does Try.prog E 43 [str s] [] fun v L => v = .int .u32 (crc s : Int) ∧ L = [] := by
  refine Does.of Try.func43 rfl Try.ntmps43 rfl rfl fun F => ?_
  refine J.norm ?_
  refine J_seq ?_
  refine J_region ?_
  refine L_q (Q_assign rfl) rfl rfl rfl ?_
  refine JL_nil ?_
  refine seqQ_normal ?_
  refine J_seq ?_
  refine J_region ?_
  refine L_q (Q_assign rfl) rfl rfl rfl ?_
  refine JL_nil ?_
  refine seqQ_normal ?_
  refine J_seq ?_
  refine J_seq ?_
  refine J_region ?_
  refine L_q (Q_assign rfl) rfl rfl rfl ?_
  refine JL_nil ?_
  refine seqQ_normal ?_
  refine J_block ?_
  refine J_loop (fun k => k ≤ s.length) (fun k => [(0, str s), (3, .int .u32 (crcMore 4294967295 (s.take k) : Int)), (4, .int .i64 (k : Int))])
    (fun _ => [F]) (fun k => s.length - k) 0 (by omega) ⟨rfl, rfl, rfl, trivial⟩ (Ent.refl _) ?_
  intro k hk
  refine J_seq ?_
  refine J_seq ?_
  refine J_region ?_
  refine L_q (Q_move rfl) rfl rfl rfl ?_
  refine L_q (Q_move rfl) rfl rfl rfl ?_
  refine L_q (Q_slen rfl) rfl rfl rfl ?_
  refine L_q (Q_lss rfl rfl) rfl rfl rfl ?_
  refine JL_nil ?_
  refine seqQ_normal ?_
  refine J_condD rfl (fun h => ?_) (fun h => ?_)
  · have hlt : k < s.length := by omega
    have hm := crcMore_lt (s.take k) 4294967295 (by decide)
    have hsucc := crcMore_take 4294967295 s k hlt
    generalize crcMore 4294967295 (s.take k) = m at hm hsucc ⊢
    have hb : s[k].toNat < 2 ^ 32 := by have := s[k].toNat_lt; omega
    have hb2 : Value.int .u32 ((s[k].toNat % 2 ^ IntKind.u32.bits : Nat) : Int) = .int .u32 (s[k].toNat : Int) := by rw [show IntKind.u32.bits = 32 from rfl, Nat.mod_eq_of_lt hb]
    refine J_skip ?_
    refine seqQ_normal ?_
    refine J_seq ?_
    refine J_block ?_
    refine J_seq ?_
    refine J_region ?_
    refine L_q (Q_move rfl) rfl rfl rfl ?_
    refine L_q (Q_move rfl) rfl rfl rfl ?_
    refine L_q (Q_move rfl) rfl rfl rfl ?_
    refine L_q (Q_sindex k rfl rfl rfl hlt) rfl rfl rfl ?_
    refine L_q ((Q_cvtN s[k].toNat rfl rfl).as hb2) rfl rfl rfl ?_
    refine L_q (Q_xorN m s[k].toNat rfl rfl rfl rfl hm hb) rfl rfl rfl ?_
    refine L_q (Q_assign rfl) rfl rfl rfl ?_
    refine JL_nil ?_
    refine seqQ_normal ?_
    refine J_seq ?_
    refine J_region ?_
    refine L_q (Q_assign rfl) rfl rfl rfl ?_
    refine JL_nil ?_
    refine seqQ_normal ?_
    refine J_block ?_
    have hm1 : m ^^^ s[k].toNat < 2 ^ 32 := Nat.xor_lt_two_pow hm hb
    refine J_loop (fun i => i ≤ 8) (fun i => [(0, str s), (3, .int .u32 (crcN i (m ^^^ s[k].toNat) : Int)), (4, .int .i64 (k : Int)), (5, .int .i64 (i : Int))])
      (fun _ => [F]) (fun i => 8 - i) 0 (by omega) ⟨rfl, rfl, rfl, rfl, trivial⟩ (Ent.refl _) ?_
    intro i hi
    refine J_seq ?_
    refine J_seq ?_
    refine J_region ?_
    refine L_q (Q_move rfl) rfl rfl rfl ?_
    refine L_q (Q_lss rfl rfl) rfl rfl rfl ?_
    refine JL_nil ?_
    refine seqQ_normal ?_
    refine J_condD rfl (fun h2 => ?_) (fun h2 => ?_)
    · have hlt2 : i < 8 := by omega
      have hn := crcN_lt i _ hm1
      have hstep : crcN (i + 1) (m ^^^ s[k].toNat) = crcStep (crcN i (m ^^^ s[k].toNat)) := rfl
      generalize crcN i (m ^^^ s[k].toNat) = d at hn hstep ⊢
      refine J_skip ?_
      refine seqQ_normal ?_
      refine J_seq ?_
      refine J_block ?_
      refine J_seq ?_
      refine J_region ?_
      refine L_q (Q_move rfl) rfl rfl rfl ?_
      refine L_q (Q_andN d 1 rfl rfl rfl rfl hn (by decide)) rfl rfl rfl ?_
      refine L_q (Q_assign rfl) rfl rfl rfl ?_
      refine JL_nil ?_
      refine seqQ_normal ?_
      refine J_seq ?_
      refine J_region ?_
      refine L_q (Q_move rfl) rfl rfl rfl ?_
      refine L_q (Q_shrN d 1 rfl rfl rfl rfl (by decide)) rfl rfl rfl ?_
      refine L_q (Q_assign rfl) rfl rfl rfl ?_
      refine JL_nil ?_
      refine seqQ_normal ?_
      refine J_seq ?_
      by_cases ho : d % 2 = 1
      · have e1 : (d &&& 1) = 1 := by rw [Nat.and_one_is_mod]; exact ho
        refine J_region ?_
        refine L_q (Q_move rfl) rfl rfl rfl ?_
        refine L_q ((Q_eql rfl rfl).as (v' := .bool true) (congrArg Value.bool (decide_eq_true (by rw [e1]; rfl)))) rfl rfl rfl ?_
        refine JL_nil ?_
        refine seqQ_normal ?_
        refine J_condT rfl ?_
        refine J_region ?_
        refine L_q (Q_move rfl) rfl rfl rfl ?_
        refine L_q (Q_xorN (d / 2) 2197175160 rfl rfl rfl rfl (by show d / 2 < 2 ^ 32; omega) (by decide)) rfl rfl rfl ?_
        refine L_q (Q_assign rfl) rfl rfl rfl ?_
        refine JL_nil ?_
        refine blockQ_normal ?_
        refine seqQ_normal ?_
        refine J_region ?_
        refine L_q (Q_move rfl) rfl rfl rfl ?_
        refine L_q (Q_add rfl rfl (by first | exact IntWalk.i64_in _ (by omega) | exact IntWalk.u8_in _ (by omega) | exact IntWalk.u32_in _ (by omega) | exact IntWalk.u64_in _ (by omega) | rfl)) rfl rfl rfl ?_
        refine L_q (Q_assign rfl) rfl rfl rfl ?_
        refine JL_nil ?_
        refine loopQ_normal (i + 1) (by omega) (by omega) ⟨rfl, ?_, rfl, rfl, trivial⟩ (Ent.refl _)
        rw [hstep]; simp only [crcStep, if_pos ho]; rfl
      · have ho : d % 2 = 0 := by omega
        have e1 : (d &&& 1) = 0 := by rw [Nat.and_one_is_mod]; exact ho
        refine J_region ?_
        refine L_q (Q_move rfl) rfl rfl rfl ?_
        refine L_q ((Q_eql rfl rfl).as (v' := .bool false) (congrArg Value.bool (decide_eq_false (by rw [e1]; decide)))) rfl rfl rfl ?_
        refine JL_nil ?_
        refine seqQ_normal ?_
        refine J_condF rfl ?_
        refine J_skip ?_
        refine blockQ_normal ?_
        refine seqQ_normal ?_
        refine J_region ?_
        refine L_q (Q_move rfl) rfl rfl rfl ?_
        refine L_q (Q_add rfl rfl (by first | exact IntWalk.i64_in _ (by omega) | exact IntWalk.u8_in _ (by omega) | exact IntWalk.u32_in _ (by omega) | exact IntWalk.u64_in _ (by omega) | rfl)) rfl rfl rfl ?_
        refine L_q (Q_assign rfl) rfl rfl rfl ?_
        refine JL_nil ?_
        refine loopQ_normal (i + 1) (by omega) (by omega) ⟨rfl, ?_, rfl, rfl, trivial⟩ (Ent.refl _)
        rw [hstep]; simp only [crcStep, if_neg (show ¬ d % 2 = 1 by omega), Nat.xor_zero]; rfl
    · obtain rfl : i = 8 := by omega
      refine J_exit ?_
      refine seqQ_exit ?_
      refine loopQ_exit ?_
      refine blockQ_hit ?_
      refine blockQ_normal ?_
      refine seqQ_normal ?_
      refine J_region ?_
      refine L_q (Q_move rfl) rfl rfl rfl ?_
      refine L_q (Q_add rfl rfl (by first | exact IntWalk.i64_in _ (by omega) | exact IntWalk.u8_in _ (by omega) | exact IntWalk.u32_in _ (by omega) | exact IntWalk.u64_in _ (by omega) | rfl)) rfl rfl rfl ?_
      refine L_q (Q_assign rfl) rfl rfl rfl ?_
      refine JL_nil ?_
      refine loopQ_normal (k + 1) hlt (by omega) ⟨rfl, ?_, rfl, trivial⟩ (Ent.refl _)
      rw [hsucc]; rfl
  · obtain rfl : k = s.length := by omega
    have hm := crcMore_lt s 4294967295 (by decide)
    rw [List.take_length]
    refine J_exit ?_
    refine seqQ_exit ?_
    refine loopQ_exit ?_
    refine blockQ_hit ?_
    refine seqQ_normal ?_
    refine J_seq ?_
    refine J_region ?_
    refine L_q (Q_move rfl) rfl rfl rfl ?_
    refine L_q (Q_xorN (crcMore 4294967295 s) 4294967295 rfl rfl rfl rfl hm (by decide)) rfl rfl rfl ?_
    refine L_q (Q_assign rfl) rfl rfl rfl ?_
    refine JL_nil ?_
    refine seqQ_normal ?_
    refine J_ret ?_
    exact retQ_ret _ [] (.cons (RV_tmp rfl) .nil) ⟨by unfold crc; rw [Nat.xor_comm]; rfl, rfl⟩ (Ent.refl _)
end Go.Proofs
