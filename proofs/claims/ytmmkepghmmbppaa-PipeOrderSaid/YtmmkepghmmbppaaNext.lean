/- The next text, walked. -/
import Derived.Test.YtmmkepghmmbppaaWire
set_option autoImplicit false
namespace Go.Proofs
open Go.SL
attribute [local irreducible] J JL QOp JOp seqQ blockQ loopQ retQ slc cel hex star pur stars Does RV Ent pAt
def nextV (s : List UInt8) : Value := match nextT s with
  | some (t, r) => .tuple #[str t, str r, .bool true]
  | none => .tuple #[str [], str [], .bool false]
theorem wnext_ok (E : World) (s : List UInt8) : Does Try.prog E 48 [str s] [] fun v L => v = nextV s ∧ L = [] := by
  refine Does.of Try.func48 rfl Try.ntmps48 rfl rfl fun F => ?_
  refine J.norm ?_
  refine J_seq ?_
  refine J_region ?_
  refine L_q (Q_assign rfl) rfl rfl rfl ?_
  refine L_q (Q_assign rfl) rfl rfl rfl ?_
  refine L_q (Q_assign rfl) rfl rfl rfl ?_
  refine JL_nil ?_
  refine seqQ_normal ?_
  refine J_seq ?_
  refine J_seq ?_
  refine J_region ?_
  refine L_q (Q_move rfl) rfl rfl rfl ?_
  refine L_q (Q_slen rfl) rfl rfl rfl ?_
  refine L_q (Q_lss rfl rfl) rfl rfl rfl ?_
  refine JL_nil ?_
  refine seqQ_normal ?_
  refine J_condD rfl (fun h => ?_) (fun h => ?_)
  · have e : nextV s = .tuple #[str [], str [], .bool false] := by unfold nextV nextT; rw [if_pos (by omega)]
    rw [e]
    refine J_seq ?_
    refine J_region ?_
    refine L_q (Q_assign rfl) rfl rfl rfl ?_
    refine L_q (Q_assign rfl) rfl rfl rfl ?_
    refine L_q (Q_assign rfl) rfl rfl rfl ?_
    refine JL_nil ?_
    refine seqQ_normal ?_
    refine J_ret ?_
    refine seqQ_ret ?_
    exact retQ_ret _ [] (.cons (RV_tmp rfl) (.cons (RV_tmp rfl) (.cons (RV_tmp rfl) .nil))) ⟨rfl, rfl⟩ (Ent.refl _)
  · have hl : 4 ≤ s.length := by omega
    have g0 := s[0].toNat_lt
    have g1 := s[1].toNat_lt
    have g2 := s[2].toNat_lt
    have g3 := s[3].toNat_lt
    have hor := or4 s[0].toNat s[1].toNat s[2].toNat s[3].toNat g1 g2 g3
    rw [← be4 s hl] at hor
    have k1 : s[0].toNat * 2 ^ 24 < 2 ^ 63 := Nat.lt_of_lt_of_le (Nat.mul_lt_mul_of_pos_right g0 (by decide)) (by decide)
    have k2 : s[1].toNat * 2 ^ 16 < 2 ^ 63 := Nat.lt_of_lt_of_le (Nat.mul_lt_mul_of_pos_right g1 (by decide)) (by decide)
    have k3 : s[2].toNat * 2 ^ 8 < 2 ^ 63 := Nat.lt_of_lt_of_le (Nat.mul_lt_mul_of_pos_right g2 (by decide)) (by decide)
    have k4 : s[0].toNat * 2 ^ 24 ||| s[1].toNat * 2 ^ 16 < 2 ^ 63 := Nat.or_lt_two_pow k1 k2
    have k5 : s[0].toNat * 2 ^ 24 ||| s[1].toNat * 2 ^ 16 ||| s[2].toNat * 2 ^ 8 < 2 ^ 63 := Nat.or_lt_two_pow k4 k3
    have hbe : be (s.take 4) < 256 ^ 4 := be_lt4 _ 4 (by simp; omega)
    refine J_skip ?_
    refine seqQ_normal ?_
    refine J_seq ?_
    refine J_drawL [0, 1, 2, 3, 4, 5, 6, 7, 8, 9, 10, 11, 12, 13, 14, 15, 16, 17, 18] (.quiet 0 (.quiet 1 (.quiet 2 (.quiet 3 (.quiet 4 (.quiet 5 (.quiet 6 (.quiet 7 (.quiet 8 (.quiet 9 (.quiet 10 (.quiet 11 (.quiet 12 (.quiet 13 (.quiet 14 (.quiet 15 (.quiet 16 (.quiet 17 (.quiet 18 .done))))))))))))))))))) Try.mixed (by kernel_rfl) (by kernel_rfl) (by repeat (first | exact retQ_noP | refine seqQ_noP ?_ | refine blockQ_noP ?_ | refine loopQ_noP ?_ | refine scopeQ_noP ?_ | (intro _ _ _ h; cases h.1))) ?_
    refine S_q (Ent.refl _) rfl (Q_move rfl) rfl rfl rfl ?_
    refine S_q (Ent.refl _) rfl (Q_sindex 0 rfl rfl rfl (by omega)) rfl rfl rfl ?_
    refine S_q (Ent.refl _) rfl (Q_cvt rfl (by first | exact IntWalk.i64_in _ (by omega) | exact IntWalk.u8_in _ (by omega) | exact IntWalk.u32_in _ (by omega) | exact IntWalk.u64_in _ (by omega) | rfl)) rfl rfl rfl ?_
    refine S_q (Ent.refl _) rfl (Q_shlZ s[0].toNat 24 rfl rfl rfl rfl (by decide) k1) rfl rfl rfl ?_
    refine S_q (Ent.refl _) rfl (Q_move rfl) rfl rfl rfl ?_
    refine S_q (Ent.refl _) rfl (Q_sindex 1 rfl rfl rfl (by omega)) rfl rfl rfl ?_
    refine S_q (Ent.refl _) rfl (Q_cvt rfl (by first | exact IntWalk.i64_in _ (by omega) | exact IntWalk.u8_in _ (by omega) | exact IntWalk.u32_in _ (by omega) | exact IntWalk.u64_in _ (by omega) | rfl)) rfl rfl rfl ?_
    refine S_q (Ent.refl _) rfl (Q_shlZ s[1].toNat 16 rfl rfl rfl rfl (by decide) k2) rfl rfl rfl ?_
    refine S_q (Ent.refl _) rfl (Q_orZ _ _ rfl rfl rfl rfl k1 k2) rfl rfl rfl ?_
    refine S_q (Ent.refl _) rfl (Q_move rfl) rfl rfl rfl ?_
    refine S_q (Ent.refl _) rfl (Q_sindex 2 rfl rfl rfl (by omega)) rfl rfl rfl ?_
    refine S_q (Ent.refl _) rfl (Q_cvt rfl (by first | exact IntWalk.i64_in _ (by omega) | exact IntWalk.u8_in _ (by omega) | exact IntWalk.u32_in _ (by omega) | exact IntWalk.u64_in _ (by omega) | rfl)) rfl rfl rfl ?_
    refine S_q (Ent.refl _) rfl (Q_shlZ s[2].toNat 8 rfl rfl rfl rfl (by decide) k3) rfl rfl rfl ?_
    refine S_q (Ent.refl _) rfl (Q_orZ _ _ rfl rfl rfl rfl k4 k3) rfl rfl rfl ?_
    refine S_q (Ent.refl _) rfl (Q_move rfl) rfl rfl rfl ?_
    refine S_q (Ent.refl _) rfl (Q_sindex 3 rfl rfl rfl (by omega)) rfl rfl rfl ?_
    refine S_q (Ent.refl _) rfl (Q_cvt rfl (by first | exact IntWalk.i64_in _ (by omega) | exact IntWalk.u8_in _ (by omega) | exact IntWalk.u32_in _ (by omega) | exact IntWalk.u64_in _ (by omega) | rfl)) rfl rfl rfl ?_
    refine S_q (Ent.refl _) rfl ((Q_orZ _ s[3].toNat rfl rfl rfl rfl k5 (Nat.lt_of_lt_of_le g3 (by decide))).as (v' := .int .i64 (be (s.take 4) : Int)) (by rw [hor])) rfl rfl rfl ?_
    refine S_q (Ent.refl _) rfl (Q_assign rfl) rfl rfl rfl ?_
    refine S_nil ?_
    refine seqQ_normal ?_
    refine J_seq ?_
    refine J_seq ?_
    refine J_region ?_
    refine L_q (Q_move rfl) rfl rfl rfl ?_
    refine L_q (Q_ssL 4 rfl rfl rfl hl) rfl rfl rfl ?_
    refine L_q (Q_assign rfl) rfl rfl rfl ?_
    refine JL_nil ?_
    refine seqQ_normal ?_
    refine J_seq ?_
    refine J_region ?_
    refine L_q (Q_move rfl) rfl rfl rfl ?_
    refine L_q (Q_slen rfl) rfl rfl rfl ?_
    refine L_q (Q_move rfl) rfl rfl rfl ?_
    refine L_q (Q_lss rfl rfl) rfl rfl rfl ?_
    refine JL_nil ?_
    refine seqQ_normal ?_
    refine J_condD rfl (fun h2 => ?_) (fun h2 => ?_)
    · have e : nextV s = .tuple #[str [], str [], .bool false] := by unfold nextV nextT; rw [if_neg (by omega), if_pos (by omega)]
      rw [e]
      refine J_seq ?_
      refine J_region ?_
      refine L_q (Q_assign rfl) rfl rfl rfl ?_
      refine L_q (Q_assign rfl) rfl rfl rfl ?_
      refine L_q (Q_assign rfl) rfl rfl rfl ?_
      refine JL_nil ?_
      refine seqQ_normal ?_
      refine J_ret ?_
      refine seqQ_ret ?_
      exact retQ_ret _ [] (.cons (RV_tmp rfl) (.cons (RV_tmp rfl) (.cons (RV_tmp rfl) .nil))) ⟨rfl, rfl⟩ (Ent.refl _)
    · have e : nextV s = .tuple #[str ((s.drop 4).take (be (s.take 4))), str ((s.drop 4).drop (be (s.take 4))), .bool true] := by unfold nextV nextT; rw [if_neg (by omega), if_neg (by omega)]
      rw [e]
      have hle : be (s.take 4) ≤ (s.drop 4).length := by omega
      refine J_skip ?_
      refine seqQ_normal ?_
      refine J_seq ?_
      refine J_drawL [0, 1, 2, 3, 4, 5, 6, 7, 8] (.quiet 0 (.quiet 1 (.quiet 2 (.quiet 3 (.quiet 4 (.quiet 5 (.quiet 6 (.quiet 7 (.quiet 8 .done))))))))) Try.mixed (by kernel_rfl) (by kernel_rfl) (by repeat (first | exact retQ_noP | refine seqQ_noP ?_ | refine blockQ_noP ?_ | refine loopQ_noP ?_ | refine scopeQ_noP ?_ | (intro _ _ _ h; cases h.1))) ?_
      refine S_q (Ent.refl _) rfl (Q_move rfl) rfl rfl rfl ?_
      refine S_q (Ent.refl _) rfl (Q_move rfl) rfl rfl rfl ?_
      refine S_q (Ent.refl _) rfl (Q_ssH (be (s.take 4)) rfl rfl rfl hle) rfl rfl rfl ?_
      refine S_q (Ent.refl _) rfl (Q_move rfl) rfl rfl rfl ?_
      refine S_q (Ent.refl _) rfl (Q_move rfl) rfl rfl rfl ?_
      refine S_q (Ent.refl _) rfl (Q_ssL (be (s.take 4)) rfl rfl rfl hle) rfl rfl rfl ?_
      refine S_q (Ent.refl _) rfl (Q_assign rfl) rfl rfl rfl ?_
      refine S_q (Ent.refl _) rfl (Q_assign rfl) rfl rfl rfl ?_
      refine S_q (Ent.refl _) rfl (Q_assign rfl) rfl rfl rfl ?_
      refine S_nil ?_
      refine seqQ_normal ?_
      refine J_ret ?_
      exact retQ_ret _ [] (.cons (RV_tmp rfl) (.cons (RV_tmp rfl) (.cons (RV_tmp rfl) .nil))) ⟨rfl, rfl⟩ (Ent.refl _)
end Go.Proofs
