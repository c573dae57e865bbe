/- A text's sum, walked. -/
import Derived.Test.YtmmkepghmmbppaaTysD
import Derived.Test.YtmmkepghmmbppaaSl13
import Derived.Test.YtmmkepghmmbppaaCrcP
set_option autoImplicit false
namespace Go.Proofs
open Go.SL
attribute [local irreducible] J JL QOp JOp seqQ blockQ loopQ retQ slc cel hex star pur stars Does RV Ent pAt
theorem more_ok (E : World) (c : Nat) (s : List UInt8) (hc : c < 2 ^ 32) (hs : s.length ≤ 1000000) : Does Try.prog E 45 [.int .u32 (c : Int), str s] [] fun v L => v = .int .u32 (crcMore c s : Int) ∧ L = [] := by
  refine Does.of Try.func45 rfl Try.ntmps45 rfl rfl fun F => ?_
  refine J.norm ?_
  refine J_seq ?_
  refine J_region ?_
  refine L_q (Q_assign rfl) rfl rfl rfl ?_
  refine JL_nil ?_
  refine seqQ_normal ?_
  refine J_seq ?_
  refine J_seq ?_
  refine J_region ?_
  refine L_q (Q_move rfl) rfl rfl rfl ?_
  refine L_o rfl rfl rfl (O_s2b tB_enc rfl rfl (by omega) (fun S => ?_))
  refine JL.norm ?_
  refine L_q (Q_lenAt 0 rfl rfl) rfl rfl rfl ?_
  refine L_q (Q_move rfl) rfl rfl rfl ?_
  refine JL_nil ?_
  refine seqQ_normal ?_
  refine J_block ?_
  refine J_loop (fun k => k ≤ s.length) (fun k => [(0, .int .u32 (crcMore c (s.take k) : Int)), (8, S.v), (9, .int .i64 (s.length : Int)), (10, .int .i64 (k : Int))])
    (fun _ => [slc tB true S s, F]) (fun k => s.length - k) 0 (by omega) ⟨rfl, rfl, rfl, rfl, trivial⟩ (Ent.refl _) ?_
  intro k hk
  refine J_seq ?_
  refine J_region ?_
  refine L_q (Q_lss rfl rfl) rfl rfl rfl ?_
  refine JL_nil ?_
  refine seqQ_normal ?_
  refine J_seq ?_
  refine J_condD rfl (fun h => ?_) (fun h => ?_)
  · have hlt : k < s.length := by omega
    have hm := crcMore_lt (s.take k) c hc
    have hsucc := crcMore_take c s k hlt
    generalize crcMore c (s.take k) = m at hm hsucc ⊢
    have hb : s[k].toNat < 2 ^ 32 := by have := s[k].toNat_lt; omega
    refine J_skip ?_
    refine seqQ_normal ?_
    refine J_seq ?_
    refine J_block ?_
    refine J_seq ?_
    refine J_region ?_
    refine L_q (Q_ixAt 0 k rfl rfl rfl rfl hlt rfl) rfl rfl rfl ?_
    refine L_q (Q_ldEAt 0 k 0 (v := .int .u8 (s[k].toNat : Int)) rfl rfl rfl rfl hlt (by decide) rfl) rfl rfl rfl ?_
    refine L_q (Q_assign rfl) rfl rfl rfl ?_
    refine JL_nil ?_
    refine seqQ_normal ?_
    refine J_seq ?_
    refine J_region ?_
    refine L_q (Q_move rfl) rfl rfl rfl ?_
    refine L_q (Q_move rfl) rfl rfl rfl ?_
    refine L_q (Q_cvt rfl (by first | exact IntWalk.i64_in _ (by omega) | exact IntWalk.u8_in _ (by omega) | exact IntWalk.u32_in _ (by omega) | exact IntWalk.u64_in _ (by omega) | rfl)) rfl rfl rfl ?_
    refine L_q (Q_xorN m s[k].toNat rfl rfl rfl rfl hm hb) rfl rfl rfl ?_
    refine L_q (Q_assign rfl) rfl rfl rfl ?_
    refine JL_nil ?_
    refine seqQ_normal ?_
    refine J_seq ?_
    refine J_region ?_
    refine L_q (Q_move rfl) rfl rfl rfl ?_
    refine JL_nil ?_
    refine seqQ_normal ?_
    refine J_block ?_
    have hm1 : m ^^^ s[k].toNat < 2 ^ 32 := Nat.xor_lt_two_pow hm hb
    refine J_loop (fun i => i ≤ 8) (fun i => [(0, .int .u32 (crcN i (m ^^^ s[k].toNat) : Int)), (8, S.v), (9, .int .i64 (s.length : Int)), (10, .int .i64 (k : Int)), (18, .int .i64 (i : Int))])
      (fun _ => [slc tB true S s, F]) (fun i => 8 - i) 0 (by omega) ⟨rfl, rfl, rfl, rfl, rfl, trivial⟩ (Ent.refl _) ?_
    intro i hi
    refine J_seq ?_
    refine J_region ?_
    refine L_q (Q_lss rfl rfl) rfl rfl rfl ?_
    refine JL_nil ?_
    refine seqQ_normal ?_
    refine J_seq ?_
    refine J_condD rfl (fun h2 => ?_) (fun h2 => ?_)
    · have hlt2 : i < 8 := by omega
      have hn := crcN_lt i _ hm1
      have hstep : crcN (i + 1) (m ^^^ s[k].toNat) = crcStep (crcN i (m ^^^ s[k].toNat)) := rfl
      generalize crcN i (m ^^^ s[k].toNat) = d at hn hstep ⊢
      by_cases ho : d % 2 = 1
      · have e1 : (d &&& 1) = 1 := by rw [Nat.and_one_is_mod]; exact ho
        refine J_skip ?_
        refine seqQ_normal ?_
        refine J_seq ?_
        refine J_block ?_
        refine J_region ?_
        refine L_q (Q_move rfl) rfl rfl rfl ?_
        refine L_q (Q_shrN d 1 rfl rfl rfl rfl (by decide)) rfl rfl rfl ?_
        refine L_q (Q_move rfl) rfl rfl rfl ?_
        refine L_q (Q_andN d 1 rfl rfl rfl rfl hn (by decide)) rfl rfl rfl ?_
        refine L_q (Q_neg (r := 4294967295) rfl (by rw [e1]; rfl)) rfl rfl rfl ?_
        refine L_q (Q_andN 2197175160 4294967295 rfl rfl rfl rfl (by decide) (by decide)) rfl rfl rfl ?_
        refine L_q (Q_xorN (d / 2) 2197175160 rfl rfl rfl rfl (by show d / 2 < 2 ^ 32; omega) (by decide)) rfl rfl rfl ?_
        refine L_q (Q_assign rfl) rfl rfl rfl ?_
        refine JL_nil ?_
        refine blockQ_normal ?_
        refine seqQ_normal ?_
        refine J_region ?_
        refine L_q (Q_add rfl rfl (by first | exact IntWalk.i64_in _ (by omega) | exact IntWalk.u8_in _ (by omega) | exact IntWalk.u32_in _ (by omega) | exact IntWalk.u64_in _ (by omega) | rfl)) rfl rfl rfl ?_
        refine L_q (Q_move rfl) rfl rfl rfl ?_
        refine JL_nil ?_
        refine loopQ_normal (i + 1) (by omega) (by omega) ⟨?_, rfl, rfl, rfl, rfl, trivial⟩ (Ent.refl _)
        rw [hstep]; simp only [crcStep, if_pos ho]; rfl
      · have ho : d % 2 = 0 := by omega
        have e1 : (d &&& 1) = 0 := by rw [Nat.and_one_is_mod]; exact ho
        refine J_skip ?_
        refine seqQ_normal ?_
        refine J_seq ?_
        refine J_block ?_
        refine J_region ?_
        refine L_q (Q_move rfl) rfl rfl rfl ?_
        refine L_q (Q_shrN d 1 rfl rfl rfl rfl (by decide)) rfl rfl rfl ?_
        refine L_q (Q_move rfl) rfl rfl rfl ?_
        refine L_q (Q_andN d 1 rfl rfl rfl rfl hn (by decide)) rfl rfl rfl ?_
        refine L_q (Q_neg (r := 0) rfl (by rw [e1]; rfl)) rfl rfl rfl ?_
        refine L_q (Q_andN 2197175160 0 rfl rfl rfl rfl (by decide) (by decide)) rfl rfl rfl ?_
        refine L_q (Q_xorN (d / 2) 0 rfl rfl rfl rfl (by show d / 2 < 2 ^ 32; omega) (by decide)) rfl rfl rfl ?_
        refine L_q (Q_assign rfl) rfl rfl rfl ?_
        refine JL_nil ?_
        refine blockQ_normal ?_
        refine seqQ_normal ?_
        refine J_region ?_
        refine L_q (Q_add rfl rfl (by first | exact IntWalk.i64_in _ (by omega) | exact IntWalk.u8_in _ (by omega) | exact IntWalk.u32_in _ (by omega) | exact IntWalk.u64_in _ (by omega) | rfl)) rfl rfl rfl ?_
        refine L_q (Q_move rfl) rfl rfl rfl ?_
        refine JL_nil ?_
        refine loopQ_normal (i + 1) (by omega) (by omega) ⟨?_, rfl, rfl, rfl, rfl, trivial⟩ (Ent.refl _)
        rw [hstep]; simp only [crcStep, if_neg (show ¬ d % 2 = 1 by omega)]; rfl
    · obtain rfl : i = 8 := by omega
      refine J_exit ?_
      refine seqQ_exit ?_
      refine loopQ_exit ?_
      refine blockQ_hit ?_
      refine blockQ_normal ?_
      refine seqQ_normal ?_
      refine J_region ?_
      refine L_q (Q_add rfl rfl (by first | exact IntWalk.i64_in _ (by omega) | exact IntWalk.u8_in _ (by omega) | exact IntWalk.u32_in _ (by omega) | exact IntWalk.u64_in _ (by omega) | rfl)) rfl rfl rfl ?_
      refine L_q (Q_move rfl) rfl rfl rfl ?_
      refine JL_nil ?_
      refine loopQ_normal (k + 1) hlt (by omega) ⟨?_, rfl, rfl, rfl, trivial⟩ (Ent.refl _)
      rw [hsucc]; rfl
  · obtain rfl : k = s.length := by omega
    refine J_exit ?_
    refine seqQ_exit ?_
    refine loopQ_exit ?_
    refine blockQ_hit ?_
    refine seqQ_normal ?_
    refine J_seq ?_
    refine J_region ?_
    refine L_q (Q_move rfl) rfl rfl rfl ?_
    refine L_q (Q_assign rfl) rfl rfl rfl ?_
    refine JL_nil ?_
    refine seqQ_normal ?_
    refine J_ret ?_
    exact retQ_ret _ [] (.cons (RV_tmp rfl) .nil) ⟨by rw [List.take_length]; rfl, rfl⟩ (Ent.re [1] rfl)
end Go.Proofs
