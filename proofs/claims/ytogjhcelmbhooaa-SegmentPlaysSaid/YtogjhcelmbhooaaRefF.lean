/- The document's records, walked. -/
import Derived.Test.YtogjhcelmbhooaaRecF
set_option autoImplicit false
namespace Go.Proofs
open Go.SL
theorem frame_cmp (s : List UInt8) (h : 8 + be (s.take 4) ≤ s.length) : frame ((s.take (8 + be (s.take 4))).drop 8) = s.take (8 + be (s.take 4)) ↔ crc (s.take 4 ++ (s.take (8 + be (s.take 4))).drop 8) = be ((s.drop 4).take 4) := by
  have hl : ((s.take (8 + be (s.take 4))).drop 8).length = be (s.take 4) := by simp; omega
  have e1 : s.take (8 + be (s.take 4)) = s.take 4 ++ ((s.drop 4).take 4 ++ (s.take (8 + be (s.take 4))).drop 8) := by
    rw [List.drop_take, show 8 + be (s.take 4) - 8 = be (s.take 4) by omega]
    conv => lhs; rw [show 8 + be (s.take 4) = 4 + (4 + be (s.take 4)) by omega]
    rw [List.take_add, List.take_add (l := s.drop 4), List.drop_drop]
  have e2 : four ((s.take (8 + be (s.take 4))).drop 8).length = s.take 4 := by rw [hl]; exact four_be s (by omega)
  unfold frame
  rw [e2]
  constructor
  · intro h2
    rw [List.append_assoc] at h2
    have h3 := h2.trans e1
    have h4 := List.append_cancel_left h3
    have h5 := (List.append_inj h4 (by simp [four]; omega)).1
    rw [← h5, be_four4, Nat.mod_eq_of_lt (crc_lt _)]
  · intro h2
    rw [h2, four_be (s.drop 4) (by simp; omega), List.append_assoc]
    exact e1.symm
attribute [local irreducible] J JL QOp JOp seqQ blockQ loopQ retQ slc cel hex star pur stars Does RV Ent pAt
theorem rframe_ok (E : World) (t : List UInt8) : Does Try.prog E 28 [str t] [] fun v L => v = frameV t ∧ L = [] := by
  refine Does.of Try.func28 rfl Try.ntmps28 rfl rfl fun F => ?_
  refine J.norm ?_
  refine J_seq ?_
  refine J_region ?_
  refine L_q (Q_assign rfl) rfl rfl rfl ?_
  refine L_q (Q_assign rfl) rfl rfl rfl ?_
  refine JL_nil ?_
  refine seqQ_normal ?_
  refine J_seq ?_
  refine J_seq ?_
  refine J_region ?_
  refine L_q (Q_move rfl) rfl rfl rfl ?_
  refine L_q (Q_slen rfl) rfl rfl rfl ?_
  refine L_q (Q_gtr rfl rfl) rfl rfl rfl ?_
  refine JL_nil ?_
  refine seqQ_normal ?_
  refine J_condD rfl (fun h => ?_) (fun h => ?_)
  · rw [show frameV t = .tuple #[str [], .int .i64 2] by unfold frameV; rw [if_pos (by omega)]]
    refine J_seq ?_
    refine J_region ?_
    refine L_q (Q_assign rfl) rfl rfl rfl ?_
    refine L_q (Q_assign rfl) rfl rfl rfl ?_
    refine JL_nil ?_
    refine seqQ_normal ?_
    refine J_ret ?_
    refine seqQ_ret ?_
    exact retQ_ret _ [] (.cons (RV_tmp rfl) (.cons (RV_tmp rfl) .nil)) ⟨rfl, rfl⟩ (Ent.refl _)
  · rw [show frameV t = .tuple #[str (frame t), .int .i64 0] by unfold frameV; rw [if_neg (by omega)]]
    have ht : t.length ≤ 4096 := by omega
    have f4 : ∀ n, (four n).length = 4 := fun _ => rfl
    refine J_skip ?_
    refine seqQ_normal ?_
    refine J_seq ?_
    refine J_region ?_
    refine L_q (Q_move rfl) rfl rfl rfl ?_
    refine L_q (Q_slen rfl) rfl rfl rfl ?_
    refine L_q (Q_cvtN t.length rfl rfl) rfl rfl rfl ?_
    refine L_o rfl rfl rfl (O_call [] [0] (four17_ok E (t.length % 2 ^ 32)) rfl rfl ?_)
    rintro _ _ ⟨rfl, rfl⟩
    refine JL.norm ?_
    refine L_q (Q_assign rfl) rfl rfl rfl ?_
    refine JL_nil ?_
    refine seqQ_normal ?_
    refine J_seq ?_
    rw [Nat.mod_eq_of_lt (a := t.length) (by omega)]
    refine J_region ?_
    refine L_q (Q_move rfl) rfl rfl rfl ?_
    refine L_q (Q_move rfl) rfl rfl rfl ?_
    refine L_q (Q_move rfl) rfl rfl rfl ?_
    refine L_q (Q_sadd rfl rfl (by rw [f4]; omega)) rfl rfl rfl ?_
    refine L_o rfl rfl rfl (O_call [] [0] (rsum_ok E (four t.length ++ t) (by rw [List.length_append, f4]; omega)) rfl rfl ?_)
    rintro _ _ ⟨rfl, rfl⟩
    refine JL.norm ?_
    refine L_o rfl rfl rfl (O_call [] [0] (four17_ok E (crc (four t.length ++ t))) rfl rfl ?_)
    rintro _ _ ⟨rfl, rfl⟩
    refine JL.norm ?_
    refine L_q (Q_sadd rfl rfl (by rw [f4, f4]; decide)) rfl rfl rfl ?_
    refine L_q (Q_move rfl) rfl rfl rfl ?_
    refine L_q (Q_sadd rfl rfl (by rw [List.length_append, f4, f4]; omega)) rfl rfl rfl ?_
    refine L_q (Q_assign rfl) rfl rfl rfl ?_
    refine L_q (Q_assign rfl) rfl rfl rfl ?_
    refine JL_nil ?_
    refine seqQ_normal ?_
    refine J_ret ?_
    exact retQ_ret _ [] (.cons (RV_tmp rfl) (.cons (RV_tmp rfl) .nil)) ⟨rfl, rfl⟩ (Ent.refl _)
theorem rnext_ok (E : World) (s : List UInt8) (hs : s.length ≤ 100000000) : Does Try.prog E 50 [str s] [] fun v L => v = recV s ∧ L = [] := by
  refine Does.of Try.func50 rfl Try.ntmps50 rfl rfl fun F => ?_
  refine J.norm ?_
  refine J_seq ?_
  refine J_region ?_
  refine L_q (Q_assign rfl) rfl rfl rfl ?_
  refine L_q (Q_assign rfl) rfl rfl rfl ?_
  refine L_q (Q_assign rfl) rfl rfl rfl ?_
  refine JL_nil ?_
  refine seqQ_normal ?_
  refine J_seq ?_
  refine J_seq ?_
  refine J_region ?_
  refine L_q (Q_move rfl) rfl rfl rfl ?_
  refine L_q (Q_slen rfl) rfl rfl rfl ?_
  refine L_q (Q_lss rfl rfl) rfl rfl rfl ?_
  refine JL_nil ?_
  refine seqQ_normal ?_
  refine J_condD rfl (fun h => ?_) (fun h => ?_)
  · rw [show recV s = .tuple #[str [], .int .i64 0, .int .i64 2] by unfold recV recNext; rw [if_pos (by omega)]; rfl]
    refine J_seq ?_
    refine J_region ?_
    refine L_q (Q_assign rfl) rfl rfl rfl ?_
    refine L_q (Q_assign rfl) rfl rfl rfl ?_
    refine L_q (Q_assign rfl) rfl rfl rfl ?_
    refine JL_nil ?_
    refine seqQ_normal ?_
    refine J_ret ?_
    refine seqQ_ret ?_
    exact retQ_ret _ [] (.cons (RV_tmp rfl) (.cons (RV_tmp rfl) (.cons (RV_tmp rfl) .nil))) ⟨rfl, rfl⟩ (Ent.refl _)
  have hl : 4 ≤ s.length := by omega
  have g0 := s[0].toNat_lt
  have g1 := s[1].toNat_lt
  have g2 := s[2].toNat_lt
  have g3 := s[3].toNat_lt
  have hor := or4 s[0].toNat s[1].toNat s[2].toNat s[3].toNat g1 g2 g3
  rw [← be4 s hl] at hor
  have k1 : s[0].toNat * 2 ^ 24 < 2 ^ 63 := Nat.lt_of_lt_of_le (Nat.mul_lt_mul_of_pos_right g0 (by decide)) (by decide)
  have k2 : s[1].toNat * 2 ^ 16 < 2 ^ 63 := Nat.lt_of_lt_of_le (Nat.mul_lt_mul_of_pos_right g1 (by decide)) (by decide)
  have k3 : s[2].toNat * 2 ^ 8 < 2 ^ 63 := Nat.lt_of_lt_of_le (Nat.mul_lt_mul_of_pos_right g2 (by decide)) (by decide)
  have k4 : s[0].toNat * 2 ^ 24 ||| s[1].toNat * 2 ^ 16 < 2 ^ 63 := Nat.or_lt_two_pow k1 k2
  have k5 : s[0].toNat * 2 ^ 24 ||| s[1].toNat * 2 ^ 16 ||| s[2].toNat * 2 ^ 8 < 2 ^ 63 := Nat.or_lt_two_pow k4 k3
  have hbe : be (s.take 4) < 256 ^ 4 := be_lt4 _ 4 (by simp; omega)
  refine J_skip ?_
  refine seqQ_normal ?_
  refine J_seq ?_
  refine J_drawL [0, 1, 2, 3, 4, 5, 6, 7, 8, 9, 10, 11, 12, 13, 14, 15, 16, 17, 18] (.quiet 0 (.quiet 1 (.quiet 2 (.quiet 3 (.quiet 4 (.quiet 5 (.quiet 6 (.quiet 7 (.quiet 8 (.quiet 9 (.quiet 10 (.quiet 11 (.quiet 12 (.quiet 13 (.quiet 14 (.quiet 15 (.quiet 16 (.quiet 17 (.quiet 18 .done))))))))))))))))))) Try.mixed (by kernel_rfl) (by kernel_rfl) (by repeat (first | exact retQ_noP | refine seqQ_noP ?_ | refine blockQ_noP ?_ | refine loopQ_noP ?_ | refine scopeQ_noP ?_)) ?_
  refine S_q (Ent.refl _) rfl (Q_move rfl) rfl rfl rfl ?_
  refine S_q (Ent.refl _) rfl (Q_sindex 0 rfl rfl rfl (by omega)) rfl rfl rfl ?_
  refine S_q (Ent.refl _) rfl (Q_cvt rfl (by first | exact IntWalk.i64_in _ (by omega) | exact IntWalk.u8_in _ (by omega) | exact IntWalk.u32_in _ (by omega) | exact IntWalk.u64_in _ (by omega) | rfl)) rfl rfl rfl ?_
  refine S_q (Ent.refl _) rfl (Q_shlZ s[0].toNat 24 rfl rfl rfl rfl (by decide) k1) rfl rfl rfl ?_
  refine S_q (Ent.refl _) rfl (Q_move rfl) rfl rfl rfl ?_
  refine S_q (Ent.refl _) rfl (Q_sindex 1 rfl rfl rfl (by omega)) rfl rfl rfl ?_
  refine S_q (Ent.refl _) rfl (Q_cvt rfl (by first | exact IntWalk.i64_in _ (by omega) | exact IntWalk.u8_in _ (by omega) | exact IntWalk.u32_in _ (by omega) | exact IntWalk.u64_in _ (by omega) | rfl)) rfl rfl rfl ?_
  refine S_q (Ent.refl _) rfl (Q_shlZ s[1].toNat 16 rfl rfl rfl rfl (by decide) k2) rfl rfl rfl ?_
  refine S_q (Ent.refl _) rfl (Q_orZ _ _ rfl rfl rfl rfl k1 k2) rfl rfl rfl ?_
  refine S_q (Ent.refl _) rfl (Q_move rfl) rfl rfl rfl ?_
  refine S_q (Ent.refl _) rfl (Q_sindex 2 rfl rfl rfl (by omega)) rfl rfl rfl ?_
  refine S_q (Ent.refl _) rfl (Q_cvt rfl (by first | exact IntWalk.i64_in _ (by omega) | exact IntWalk.u8_in _ (by omega) | exact IntWalk.u32_in _ (by omega) | exact IntWalk.u64_in _ (by omega) | rfl)) rfl rfl rfl ?_
  refine S_q (Ent.refl _) rfl (Q_shlZ s[2].toNat 8 rfl rfl rfl rfl (by decide) k3) rfl rfl rfl ?_
  refine S_q (Ent.refl _) rfl (Q_orZ _ _ rfl rfl rfl rfl k4 k3) rfl rfl rfl ?_
  refine S_q (Ent.refl _) rfl (Q_move rfl) rfl rfl rfl ?_
  refine S_q (Ent.refl _) rfl (Q_sindex 3 rfl rfl rfl (by omega)) rfl rfl rfl ?_
  refine S_q (Ent.refl _) rfl (Q_cvt rfl (by first | exact IntWalk.i64_in _ (by omega) | exact IntWalk.u8_in _ (by omega) | exact IntWalk.u32_in _ (by omega) | exact IntWalk.u64_in _ (by omega) | rfl)) rfl rfl rfl ?_
  refine S_q (Ent.refl _) rfl ((Q_orZ _ s[3].toNat rfl rfl rfl rfl k5 (Nat.lt_of_lt_of_le g3 (by decide))).as (v' := .int .i64 (be (s.take 4) : Int)) (by rw [hor])) rfl rfl rfl ?_
  refine S_q (Ent.refl _) rfl (Q_assign rfl) rfl rfl rfl ?_
  refine S_nil ?_
  refine seqQ_normal ?_
  refine J_seq ?_
  refine J_seq ?_
  refine J_region ?_
  refine L_q (Q_move rfl) rfl rfl rfl ?_
  refine L_q (Q_gtr rfl rfl) rfl rfl rfl ?_
  refine JL_nil ?_
  refine seqQ_normal ?_
  refine J_condD rfl (fun h1 => ?_) (fun h1 => ?_)
  · rw [show recV s = .tuple #[str [], .int .i64 0, .int .i64 3] by unfold recV recNext; rw [if_neg (by omega), if_pos (by omega)]; rfl]
    refine J_seq ?_
    refine J_region ?_
    refine L_q (Q_assign rfl) rfl rfl rfl ?_
    refine L_q (Q_assign rfl) rfl rfl rfl ?_
    refine L_q (Q_assign rfl) rfl rfl rfl ?_
    refine JL_nil ?_
    refine seqQ_normal ?_
    refine J_ret ?_
    refine seqQ_ret ?_
    exact retQ_ret _ [] (.cons (RV_tmp rfl) (.cons (RV_tmp rfl) (.cons (RV_tmp rfl) .nil))) ⟨rfl, rfl⟩ (Ent.refl _)
  have h1' : be (s.take 4) ≤ 4096 := by omega
  refine J_skip ?_
  refine seqQ_normal ?_
  refine J_seq ?_
  refine J_seq ?_
  refine J_region ?_
  refine L_q (Q_move rfl) rfl rfl rfl ?_
  refine L_q (Q_slen rfl) rfl rfl rfl ?_
  refine L_q (Q_move rfl) rfl rfl rfl ?_
  refine L_q (Q_add rfl rfl (by first | exact IntWalk.i64_in _ (by omega) | exact IntWalk.u8_in _ (by omega) | exact IntWalk.u32_in _ (by omega) | exact IntWalk.u64_in _ (by omega) | rfl)) rfl rfl rfl ?_
  refine L_q (Q_lss rfl rfl) rfl rfl rfl ?_
  refine JL_nil ?_
  refine seqQ_normal ?_
  refine J_condD rfl (fun h2 => ?_) (fun h2 => ?_)
  · rw [show recV s = .tuple #[str [], .int .i64 0, .int .i64 2] by unfold recV recNext; rw [if_neg (by omega), if_neg (by omega), if_pos (by omega)]; rfl]
    refine J_seq ?_
    refine J_region ?_
    refine L_q (Q_assign rfl) rfl rfl rfl ?_
    refine L_q (Q_assign rfl) rfl rfl rfl ?_
    refine L_q (Q_assign rfl) rfl rfl rfl ?_
    refine JL_nil ?_
    refine seqQ_normal ?_
    refine J_ret ?_
    refine seqQ_ret ?_
    exact retQ_ret _ [] (.cons (RV_tmp rfl) (.cons (RV_tmp rfl) (.cons (RV_tmp rfl) .nil))) ⟨rfl, rfl⟩ (Ent.refl _)
  have h2' : 8 + be (s.take 4) ≤ s.length := by omega
  have hbl : ((s.take (8 + be (s.take 4))).drop 8).length = be (s.take 4) := by simp; omega
  have hc := frame_cmp s h2'
  have hf := rframe_ok E ((s.take (8 + be (s.take 4))).drop 8)
  rw [show frameV ((s.take (8 + be (s.take 4))).drop 8) = .tuple #[str (frame ((s.take (8 + be (s.take 4))).drop 8)), .int .i64 0] by unfold frameV; rw [if_neg (by omega)]] at hf
  refine J_skip ?_
  refine seqQ_normal ?_
  refine J_seq ?_
  refine J_seq ?_
  refine J_region ?_
  refine L_q (Q_move rfl) rfl rfl rfl ?_
  refine L_q (Q_move rfl) rfl rfl rfl ?_
  refine L_q (Q_add rfl rfl (by first | exact IntWalk.i64_in _ (by omega) | exact IntWalk.u8_in _ (by omega) | exact IntWalk.u32_in _ (by omega) | exact IntWalk.u64_in _ (by omega) | rfl)) rfl rfl rfl ?_
  refine L_q (Q_ssLH 8 (8 + be (s.take 4)) rfl rfl rfl rfl (by omega) (by omega) h2') rfl rfl rfl ?_
  refine L_o rfl rfl rfl (O_call [] [0] hf rfl rfl ?_)
  rintro _ _ ⟨rfl, rfl⟩
  refine JL.norm ?_
  refine L_q (Q_move rfl) rfl rfl rfl ?_
  refine L_q (Q_extract (v := str (frame ((s.take (8 + be (s.take 4))).drop 8))) rfl rfl) rfl rfl rfl ?_
  refine L_q (Q_extract (v := .int .i64 0) rfl rfl) rfl rfl rfl ?_
  refine L_q (Q_assign rfl) rfl rfl rfl ?_
  refine L_q (Q_assign rfl) rfl rfl rfl ?_
  refine JL_nil ?_
  refine seqQ_normal ?_
  refine J_seq ?_
  refine J_region ?_
  refine L_q (Q_move rfl) rfl rfl rfl ?_
  refine L_q (Q_move rfl) rfl rfl rfl ?_
  refine L_q (Q_move rfl) rfl rfl rfl ?_
  refine L_q (Q_add rfl rfl (by first | exact IntWalk.i64_in _ (by omega) | exact IntWalk.u8_in _ (by omega) | exact IntWalk.u32_in _ (by omega) | exact IntWalk.u64_in _ (by omega) | rfl)) rfl rfl rfl ?_
  refine L_q (Q_ssH (8 + be (s.take 4)) rfl rfl (by omega) h2') rfl rfl rfl ?_
  refine L_q (Q_sneq rfl rfl) rfl rfl rfl ?_
  refine JL_nil ?_
  refine seqQ_normal ?_
  refine J_condD rfl (fun h3 => ?_) (fun h3 => ?_)
  · rw [show recV s = .tuple #[str [], .int .i64 0, .int .i64 4] by unfold recV recNext; rw [if_neg (by omega), if_neg (by omega), if_neg (by omega), if_neg (fun h4 => h3 (hc.2 h4))]; rfl]
    refine J_seq ?_
    refine J_region ?_
    refine L_q (Q_assign rfl) rfl rfl rfl ?_
    refine L_q (Q_assign rfl) rfl rfl rfl ?_
    refine L_q (Q_assign rfl) rfl rfl rfl ?_
    refine JL_nil ?_
    refine seqQ_normal ?_
    refine J_ret ?_
    refine seqQ_ret ?_
    exact retQ_ret _ [] (.cons (RV_tmp rfl) (.cons (RV_tmp rfl) (.cons (RV_tmp rfl) .nil))) ⟨rfl, rfl⟩ (Ent.refl _)
  · rw [show recV s = .tuple #[str ((s.take (8 + be (s.take 4))).drop 8), .int .i64 ((8 + be (s.take 4) : Nat) : Int), .int .i64 0] by unfold recV recNext; rw [if_neg (by omega), if_neg (by omega), if_neg (by omega), if_pos (hc.1 (Classical.not_not.1 h3))]]
    refine J_skip ?_
    refine seqQ_normal ?_
    refine J_seq ?_
    refine J_region ?_
    refine L_q (Q_move rfl) rfl rfl rfl ?_
    refine L_q (Q_move rfl) rfl rfl rfl ?_
    refine L_q (Q_add rfl rfl (by first | exact IntWalk.i64_in _ (by omega) | exact IntWalk.u8_in _ (by omega) | exact IntWalk.u32_in _ (by omega) | exact IntWalk.u64_in _ (by omega) | rfl)) rfl rfl rfl ?_
    refine L_q (Q_ssLH 8 (8 + be (s.take 4)) rfl rfl rfl rfl (by omega) (by omega) h2') rfl rfl rfl ?_
    refine L_q (Q_move rfl) rfl rfl rfl ?_
    refine L_q (Q_add rfl rfl (by first | exact IntWalk.i64_in _ (by omega) | exact IntWalk.u8_in _ (by omega) | exact IntWalk.u32_in _ (by omega) | exact IntWalk.u64_in _ (by omega) | rfl)) rfl rfl rfl ?_
    refine L_q (Q_assign rfl) rfl rfl rfl ?_
    refine L_q (Q_assign rfl) rfl rfl rfl ?_
    refine L_q (Q_assign rfl) rfl rfl rfl ?_
    refine JL_nil ?_
    refine seqQ_normal ?_
    refine J_ret ?_
    exact retQ_ret _ [] (.cons (RV_tmp rfl) (.cons (RV_tmp rfl) (.cons (RV_tmp rfl) .nil))) ⟨rfl, rfl⟩ (Ent.refl _)
theorem rprefix_ok (E : World) (s : List UInt8) (hs : s.length ≤ 1000000) : Does Try.prog E 40 [str s] [] fun v L => ∃ S : SV, v = .tuple #[S.v, .int .i64 ((prefixR s).2 : Int)] ∧ L = [slc tS true S (prefixR s).1] := by
  refine Does.of Try.func40 rfl Try.ntmps40 rfl rfl fun F => ?_
  refine J.norm ?_
  refine J_seq ?_
  refine J_region ?_
  refine L_q (Q_assign rfl) rfl rfl rfl ?_
  refine L_q (Q_assign rfl) rfl rfl rfl ?_
  refine JL_nil ?_
  refine seqQ_normal ?_
  refine J_seq ?_
  refine J_region ?_
  refine L_q (Q_assign rfl) rfl rfl rfl ?_
  refine JL_nil ?_
  refine seqQ_normal ?_
  refine J_seq ?_
  refine J_region ?_
  refine L_q (Q_assign rfl) rfl rfl rfl ?_
  refine JL_nil ?_
  refine seqQ_normal ?_
  refine J_block ?_
  refine J.ent (Ent.mk fun _ _ h => (h.lay_nil tS true : Sat _ _ (slc tS true SV.nil [] :: _))) ?_
  refine J_loop (fun i : List (List UInt8) × SV × Nat => i.2.2 ≤ s.length ∧ i.1.length ≤ i.2.2 ∧ prefixR s = (i.1 ++ (prefixR (s.drop i.2.2)).1, i.2.2 + (prefixR (s.drop i.2.2)).2)) (fun i => [(0, str s), (4, i.2.1.v), (5, .int .i64 (i.2.2 : Int))])
    (fun i => [slc tS true i.2.1 i.1, F]) (fun i => s.length - i.2.2) ([], SV.nil, 0) ⟨by simp, by simp, by simp⟩ ⟨rfl, rfl, rfl, trivial⟩ (Ent.refl _) ?_
  rintro ⟨l, S, k⟩ ⟨h1, h2, h3⟩
  dsimp only at h1 h2 h3 ⊢
  have hn := rnext_ok E (s.drop k) (by simp; omega)
  have hd : (s.drop k).length = s.length - k := by simp
  rcases hx : recNext (s.drop k) with ⟨t, n, e⟩
  have hv : recV (s.drop k) = .tuple #[str t, .int .i64 (n : Int), .int .i64 e] := by unfold recV; rw [hx]
  rw [hv] at hn
  by_cases he : e = 0
  · subst he
    obtain ⟨q1, q2, q3, q4⟩ := recNext_ok hx
    rw [prefixR_step hx] at h3
    refine J_block ?_
    refine J_seq ?_
    refine J_region ?_
    refine L_q (Q_move rfl) rfl rfl rfl ?_
    refine L_q (Q_move rfl) rfl rfl rfl ?_
    refine L_q (Q_ssL k rfl rfl rfl h1) rfl rfl rfl ?_
    refine L_o rfl rfl rfl (O_call [] [0,1] hn rfl rfl ?_)
    rintro _ _ ⟨rfl, rfl⟩
    refine JL.norm ?_
    refine L_q (Q_move rfl) rfl rfl rfl ?_
    refine L_q (Q_extract (v := str t) rfl rfl) rfl rfl rfl ?_
    refine L_q (Q_extract (v := .int .i64 (n : Int)) rfl rfl) rfl rfl rfl ?_
    refine L_q (Q_extract (v := .int .i64 0) rfl rfl) rfl rfl rfl ?_
    refine L_q (Q_assign rfl) rfl rfl rfl ?_
    refine L_q (Q_assign rfl) rfl rfl rfl ?_
    refine L_q (Q_assign rfl) rfl rfl rfl ?_
    refine JL_nil ?_
    refine seqQ_normal ?_
    refine J_seq ?_
    refine J_seq ?_
    refine J_region ?_
    refine L_q (Q_move rfl) rfl rfl rfl ?_
    refine L_q ((Q_neq rfl rfl).as (v' := .bool false) rfl) rfl rfl rfl ?_
    refine JL_nil ?_
    refine seqQ_normal ?_
    refine J_condF rfl ?_
    refine J_skip ?_
    refine seqQ_normal ?_
    refine J_seq ?_
    refine J_region ?_
    refine L_q (Q_move rfl) rfl rfl rfl ?_
    refine L_q (Q_move rfl) rfl rfl rfl ?_
    refine L_o rfl rfl rfl (O_litP (τ := tS) (m := 1) (sz := 1) [t] rfl rfl rfl rfl rfl rfl (by decide) (fun S1 => ?_))
    refine JL.norm ?_
    refine L_o rfl rfl rfl (O_app (τ := tS) 1 rfl (fun w h => h.rd 0 rfl) rfl rfl rfl rfl (by simp; omega) (by decide) (fun S2 => ?_))
    refine JL.norm ?_
    refine L_q (Q_assign rfl) rfl rfl rfl ?_
    refine JL_nil ?_
    refine seqQ_normal ?_
    refine J_region ?_
    refine L_q (Q_move rfl) rfl rfl rfl ?_
    refine L_q (Q_move rfl) rfl rfl rfl ?_
    refine L_q (Q_add rfl rfl (by first | exact IntWalk.i64_in _ (by omega) | exact IntWalk.u8_in _ (by omega) | exact IntWalk.u32_in _ (by omega) | exact IntWalk.u64_in _ (by omega) | rfl)) rfl rfl rfl ?_
    refine L_q (Q_assign rfl) rfl rfl rfl ?_
    refine JL_nil ?_
    refine blockQ_normal ?_
    refine loopQ_normal (l ++ [t], S2, k + n) ⟨by simp only; omega, by simp; omega, ?_⟩ (by simp only; omega) ⟨rfl, rfl, rfl, trivial⟩ (Ent.re [1, 2] rfl)
    rw [h3, List.drop_drop]
    simp only [List.append_assoc, List.cons_append, List.nil_append, Prod.mk.injEq, true_and]
    omega
  · rw [prefixR_stop (s := s.drop k) (by rw [hx]; exact he)] at h3
    refine J_block ?_
    refine J_seq ?_
    refine J_region ?_
    refine L_q (Q_move rfl) rfl rfl rfl ?_
    refine L_q (Q_move rfl) rfl rfl rfl ?_
    refine L_q (Q_ssL k rfl rfl rfl h1) rfl rfl rfl ?_
    refine L_o rfl rfl rfl (O_call [] [0,1] hn rfl rfl ?_)
    rintro _ _ ⟨rfl, rfl⟩
    refine JL.norm ?_
    refine L_q (Q_move rfl) rfl rfl rfl ?_
    refine L_q (Q_extract (v := str t) rfl rfl) rfl rfl rfl ?_
    refine L_q (Q_extract (v := .int .i64 (n : Int)) rfl rfl) rfl rfl rfl ?_
    refine L_q (Q_extract (v := .int .i64 e) rfl rfl) rfl rfl rfl ?_
    refine L_q (Q_assign rfl) rfl rfl rfl ?_
    refine L_q (Q_assign rfl) rfl rfl rfl ?_
    refine L_q (Q_assign rfl) rfl rfl rfl ?_
    refine JL_nil ?_
    refine seqQ_normal ?_
    refine J_seq ?_
    refine J_seq ?_
    refine J_region ?_
    refine L_q (Q_move rfl) rfl rfl rfl ?_
    refine L_q ((Q_neq rfl rfl).as (v' := .bool true) (congrArg Value.bool (decide_eq_true he))) rfl rfl rfl ?_
    refine JL_nil ?_
    refine seqQ_normal ?_
    refine J_condT rfl ?_
    refine J_seq ?_
    refine J_region ?_
    refine L_q (Q_move rfl) rfl rfl rfl ?_
    refine L_q (Q_move rfl) rfl rfl rfl ?_
    refine L_q (Q_assign rfl) rfl rfl rfl ?_
    refine L_q (Q_assign rfl) rfl rfl rfl ?_
    refine JL_nil ?_
    refine seqQ_normal ?_
    refine J_ret ?_
    refine seqQ_ret ?_
    refine blockQ_ret ?_
    refine loopQ_ret ?_
    refine blockQ_ret ?_
    exact retQ_ret _ [slc tS true S l] (.cons (RV_tmp rfl) (.cons (RV_tmp rfl) .nil)) ⟨S, by rw [h3]; rfl, by rw [h3]; simp⟩ (Ent.refl _)
end Go.Proofs
