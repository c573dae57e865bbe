/- Records, walked. -/
import Derived.Test.YtmmkepghmmbppaaRec
import Derived.Test.YtmmkepghmmbppaaWire
import Derived.Test.YtmmkepghmmbppaaRef37b
import Derived.Test.YtmmkepghmmbppaaFrameP
set_option autoImplicit false
namespace Go.Proofs
open Go.SL
attribute [local irreducible] J JL QOp JOp seqQ blockQ loopQ retQ slc cel hex star pur stars Does RV Ent pAt
theorem fourr_ok (E : World) (n : Nat) : Does Try.prog E 44 [.int .u32 (n : Int)] [] fun v L => v = str (four n) ∧ L = [] := by
  refine Does.of Try.func44 rfl Try.ntmps44 rfl rfl fun F => ?_
  refine J.norm ?_
  refine J_seq ?_
  refine J_region ?_
  refine L_q (Q_assign rfl) rfl rfl rfl ?_
  refine JL_nil ?_
  refine seqQ_normal ?_
  refine J_seq ?_
  refine J_region ?_
  refine L_q (Q_move rfl) rfl rfl rfl ?_
  refine L_q (Q_shrN n 24 rfl rfl rfl rfl (by decide)) rfl rfl rfl ?_
  refine L_q (Q_cvtN (n / 2 ^ 24) rfl rfl) rfl rfl rfl ?_
  refine L_q (Q_move rfl) rfl rfl rfl ?_
  refine L_q (Q_shrN n 16 rfl rfl rfl rfl (by decide)) rfl rfl rfl ?_
  refine L_q (Q_cvtN (n / 2 ^ 16) rfl rfl) rfl rfl rfl ?_
  refine L_q (Q_move rfl) rfl rfl rfl ?_
  refine L_q (Q_shrN n 8 rfl rfl rfl rfl (by decide)) rfl rfl rfl ?_
  refine L_q (Q_cvtN (n / 2 ^ 8) rfl rfl) rfl rfl rfl ?_
  refine L_q (Q_move rfl) rfl rfl rfl ?_
  refine L_q (Q_cvtN n rfl rfl) rfl rfl rfl ?_
  refine L_o rfl rfl rfl (O_litP (τ := tB) (m := 4) (sz := 1) (four n) rfl rfl rfl rfl rfl rfl (by decide) (fun S => ?_))
  refine JL.norm ?_
  refine L_q (Q_b2s tB_enc (fun w h => h.rd 0 rfl) rfl) rfl rfl rfl ?_
  refine L_q (Q_assign rfl) rfl rfl rfl ?_
  refine JL_nil ?_
  refine seqQ_normal ?_
  refine J_ret ?_
  exact retQ_ret _ [] (.cons (RV_tmp rfl) .nil) ⟨rfl, rfl⟩ (Ent.re [1] rfl)
theorem number_ok (E : World) (s : List UInt8) (hl : 4 ≤ s.length) : Does Try.prog E 47 [str s] [] fun v L => v = .int .u32 (be (s.take 4) : Int) ∧ L = [] := by
  have g0 := s[0].toNat_lt
  have g1 := s[1].toNat_lt
  have g2 := s[2].toNat_lt
  have g3 := s[3].toNat_lt
  have hor := or4 s[0].toNat s[1].toNat s[2].toNat s[3].toNat g1 g2 g3
  rw [← be4 s hl] at hor
  have k1 : s[0].toNat * 2 ^ 24 < 2 ^ 32 := Nat.lt_of_lt_of_le (Nat.mul_lt_mul_of_pos_right g0 (by decide)) (by decide)
  have k2 : s[1].toNat * 2 ^ 16 < 2 ^ 32 := Nat.lt_of_lt_of_le (Nat.mul_lt_mul_of_pos_right g1 (by decide)) (by decide)
  have k3 : s[2].toNat * 2 ^ 8 < 2 ^ 32 := Nat.lt_of_lt_of_le (Nat.mul_lt_mul_of_pos_right g2 (by decide)) (by decide)
  have k4 : s[0].toNat * 2 ^ 24 ||| s[1].toNat * 2 ^ 16 < 2 ^ 32 := Nat.or_lt_two_pow k1 k2
  have k5 : s[0].toNat * 2 ^ 24 ||| s[1].toNat * 2 ^ 16 ||| s[2].toNat * 2 ^ 8 < 2 ^ 32 := Nat.or_lt_two_pow k4 k3
  have c : ∀ m : Nat, m < 256 → m % 2 ^ 32 = m := fun m h => Nat.mod_eq_of_lt (Nat.lt_of_lt_of_le h (by decide))
  have d : ∀ m : Nat, m < 2 ^ 32 → Value.int .u32 ((m % 2 ^ IntKind.u32.bits : Nat) : Int) = .int .u32 (m : Int) := fun m h => by rw [show IntKind.u32.bits = 32 from rfl, Nat.mod_eq_of_lt h]
  have d2 : ∀ m : Nat, m < 256 → Value.int .u32 ((m % 2 ^ IntKind.u32.bits : Nat) : Int) = .int .u32 (m : Int) := fun m h => d m (Nat.lt_of_lt_of_le h (by decide))
  refine Does.of Try.func47 rfl Try.ntmps47 rfl rfl fun F => ?_
  refine J.norm ?_
  refine J_seq ?_
  refine J_region ?_
  refine L_q (Q_assign rfl) rfl rfl rfl ?_
  refine JL_nil ?_
  refine seqQ_normal ?_
  refine J_seq ?_
  refine J_drawL [0, 1, 2, 3, 4, 5, 6, 7, 8, 9, 10, 11, 12, 13, 14, 15, 16, 17, 18] (.quiet 0 (.quiet 1 (.quiet 2 (.quiet 3 (.quiet 4 (.quiet 5 (.quiet 6 (.quiet 7 (.quiet 8 (.quiet 9 (.quiet 10 (.quiet 11 (.quiet 12 (.quiet 13 (.quiet 14 (.quiet 15 (.quiet 16 (.quiet 17 (.quiet 18 .done))))))))))))))))))) Try.mixed (by kernel_rfl) (by kernel_rfl) (by repeat (first | exact retQ_noP | refine seqQ_noP ?_ | refine blockQ_noP ?_ | refine loopQ_noP ?_ | refine scopeQ_noP ?_ | (intro _ _ _ h; cases h.1))) ?_
  refine S_q (Ent.refl _) rfl (Q_move rfl) rfl rfl rfl ?_
  refine S_q (Ent.refl _) rfl (Q_sindex 0 rfl rfl rfl (by omega)) rfl rfl rfl ?_
  refine S_q (Ent.refl _) rfl ((Q_cvtN s[0].toNat rfl rfl).as (d2 _ g0)) rfl rfl rfl ?_
  refine S_q (Ent.refl _) rfl ((Q_shlN s[0].toNat 24 rfl rfl rfl rfl (by decide)).as (d _ k1)) rfl rfl rfl ?_
  refine S_q (Ent.refl _) rfl (Q_move rfl) rfl rfl rfl ?_
  refine S_q (Ent.refl _) rfl (Q_sindex 1 rfl rfl rfl (by omega)) rfl rfl rfl ?_
  refine S_q (Ent.refl _) rfl ((Q_cvtN s[1].toNat rfl rfl).as (d2 _ g1)) rfl rfl rfl ?_
  refine S_q (Ent.refl _) rfl ((Q_shlN s[1].toNat 16 rfl rfl rfl rfl (by decide)).as (d _ k2)) rfl rfl rfl ?_
  refine S_q (Ent.refl _) rfl (Q_orN _ _ rfl rfl rfl rfl k1 k2) rfl rfl rfl ?_
  refine S_q (Ent.refl _) rfl (Q_move rfl) rfl rfl rfl ?_
  refine S_q (Ent.refl _) rfl (Q_sindex 2 rfl rfl rfl (by omega)) rfl rfl rfl ?_
  refine S_q (Ent.refl _) rfl ((Q_cvtN s[2].toNat rfl rfl).as (d2 _ g2)) rfl rfl rfl ?_
  refine S_q (Ent.refl _) rfl ((Q_shlN s[2].toNat 8 rfl rfl rfl rfl (by decide)).as (d _ k3)) rfl rfl rfl ?_
  refine S_q (Ent.refl _) rfl (Q_orN _ _ rfl rfl rfl rfl k4 k3) rfl rfl rfl ?_
  refine S_q (Ent.refl _) rfl (Q_move rfl) rfl rfl rfl ?_
  refine S_q (Ent.refl _) rfl (Q_sindex 3 rfl rfl rfl (by omega)) rfl rfl rfl ?_
  refine S_q (Ent.refl _) rfl ((Q_cvtN s[3].toNat rfl rfl).as (d2 _ g3)) rfl rfl rfl ?_
  refine S_q (Ent.refl _) rfl ((Q_orN _ s[3].toNat rfl rfl rfl rfl k5 (Nat.lt_of_lt_of_le g3 (by decide))).as (v' := .int .u32 (be (s.take 4) : Int)) (by rw [hor])) rfl rfl rfl ?_
  refine S_q (Ent.refl _) rfl (Q_assign rfl) rfl rfl rfl ?_
  refine S_nil ?_
  refine seqQ_normal ?_
  refine J_ret ?_
  exact retQ_ret _ [] (.cons (RV_tmp rfl) .nil) ⟨rfl, rfl⟩ (Ent.refl _)
def frameV (t : List UInt8) : Value := if 4096 < t.length then .tuple #[str [], .int .i64 2] else .tuple #[str (frame t), .int .i64 0]
theorem frame_ok (E : World) (t : List UInt8) : Does Try.prog E 35 [str t] [] fun v L => v = frameV t ∧ L = [] := by
  refine Does.of Try.func35 rfl Try.ntmps35 rfl rfl fun F => ?_
  refine J.norm ?_
  refine J_seq ?_
  refine J_region ?_
  refine L_q (Q_assign rfl) rfl rfl rfl ?_
  refine L_q (Q_assign rfl) rfl rfl rfl ?_
  refine JL_nil ?_
  refine seqQ_normal ?_
  refine J_seq ?_
  refine J_seq ?_
  refine J_region ?_
  refine L_q (Q_move rfl) rfl rfl rfl ?_
  refine L_q (Q_slen rfl) rfl rfl rfl ?_
  refine L_q (Q_gtr rfl rfl) rfl rfl rfl ?_
  refine JL_nil ?_
  refine seqQ_normal ?_
  refine J_condD rfl (fun h => ?_) (fun h => ?_)
  · rw [show frameV t = .tuple #[str [], .int .i64 2] by unfold frameV; rw [if_pos (by omega)]]
    refine J_seq ?_
    refine J_region ?_
    refine L_q (Q_assign rfl) rfl rfl rfl ?_
    refine L_q (Q_assign rfl) rfl rfl rfl ?_
    refine JL_nil ?_
    refine seqQ_normal ?_
    refine J_ret ?_
    refine seqQ_ret ?_
    exact retQ_ret _ [] (.cons (RV_tmp rfl) (.cons (RV_tmp rfl) .nil)) ⟨rfl, rfl⟩ (Ent.refl _)
  · rw [show frameV t = .tuple #[str (frame t), .int .i64 0] by unfold frameV; rw [if_neg (by omega)]]
    have ht : t.length ≤ 4096 := by omega
    have f4 : ∀ n, (four n).length = 4 := fun _ => rfl
    have h1 : crcMore (crcMore 4294967295 (four t.length)) t < 2 ^ 32 := crcMore_lt _ _ (crcMore_lt _ _ (by decide))
    have h2 : 4294967295 ^^^ crcMore (crcMore 4294967295 (four t.length)) t = crc (four t.length ++ t) := by unfold crc; rw [crcMore_append]
    refine J_skip ?_
    refine seqQ_normal ?_
    refine J_seq ?_
    refine J_region ?_
    refine L_q (Q_move rfl) rfl rfl rfl ?_
    refine L_q (Q_slen rfl) rfl rfl rfl ?_
    refine L_q (Q_cvtN t.length rfl rfl) rfl rfl rfl ?_
    refine L_o rfl rfl rfl (O_call [] [0] (fourr_ok E (t.length % 2 ^ 32)) rfl rfl ?_)
    rintro _ _ ⟨rfl, rfl⟩
    refine JL.norm ?_
    refine L_q (Q_assign rfl) rfl rfl rfl ?_
    refine JL_nil ?_
    refine seqQ_normal ?_
    refine J_seq ?_
    rw [Nat.mod_eq_of_lt (a := t.length) (by omega)]
    refine J_region ?_
    refine L_q (Q_move rfl) rfl rfl rfl ?_
    refine L_q (Q_move rfl) rfl rfl rfl ?_
    refine L_o rfl rfl rfl (O_call [] [0] (more_ok E 4294967295 (four t.length) (by decide) (by simp [four])) rfl rfl ?_)
    rintro _ _ ⟨rfl, rfl⟩
    refine JL.norm ?_
    refine L_q (Q_move rfl) rfl rfl rfl ?_
    refine L_o rfl rfl rfl (O_call [] [0] (more_ok E (crcMore 4294967295 (four t.length)) t (crcMore_lt _ _ (by decide)) (by omega)) rfl rfl ?_)
    rintro _ _ ⟨rfl, rfl⟩
    refine JL.norm ?_
    refine L_q (Q_compl (crcMore (crcMore 4294967295 (four t.length)) t) rfl rfl h1 rfl) rfl rfl rfl ?_
    refine L_o rfl rfl rfl (O_call [] [0] (fourr_ok E (4294967295 ^^^ crcMore (crcMore 4294967295 (four t.length)) t)) rfl rfl ?_)
    rintro _ _ ⟨rfl, rfl⟩
    refine JL.norm ?_
    refine L_q (Q_sadd rfl rfl (by rw [f4, f4]; decide)) rfl rfl rfl ?_
    refine L_q (Q_move rfl) rfl rfl rfl ?_
    refine L_q (Q_sadd rfl rfl (by rw [List.length_append, f4, f4]; omega)) rfl rfl rfl ?_
    refine L_q (Q_assign rfl) rfl rfl rfl ?_
    refine L_q (Q_assign rfl) rfl rfl rfl ?_
    refine JL_nil ?_
    refine seqQ_normal ?_
    refine J_ret ?_
    exact retQ_ret _ [] (.cons (RV_tmp rfl) (.cons (RV_tmp rfl) .nil)) ⟨by rw [h2]; rfl, rfl⟩ (Ent.refl _)
def recV (s : List UInt8) : Value := .tuple #[str (recNext s).1, .int .i64 ((recNext s).2.1 : Int), .int .i64 (recNext s).2.2]
theorem next_ok (E : World) (s : List UInt8) (hs : s.length ≤ 100000000) : Does Try.prog E 37 [str s] [] fun v L => v = recV s ∧ L = [] := by
  refine Does.of Try.func37 rfl Try.ntmps37 rfl rfl fun F => ?_
  refine J.norm ?_
  refine J_seq ?_
  refine J_region ?_
  refine L_q (Q_assign rfl) rfl rfl rfl ?_
  refine L_q (Q_assign rfl) rfl rfl rfl ?_
  refine L_q (Q_assign rfl) rfl rfl rfl ?_
  refine JL_nil ?_
  refine seqQ_normal ?_
  refine J_seq ?_
  refine J_seq ?_
  refine J_region ?_
  refine L_q (Q_move rfl) rfl rfl rfl ?_
  refine L_q (Q_slen rfl) rfl rfl rfl ?_
  refine L_q (Q_lss rfl rfl) rfl rfl rfl ?_
  refine JL_nil ?_
  refine seqQ_normal ?_
  refine J_condD rfl (fun h => ?_) (fun h => ?_)
  · rw [show recV s = .tuple #[str [], .int .i64 0, .int .i64 2] by unfold recV recNext; rw [if_pos (by omega)]; rfl]
    refine J_seq ?_
    refine J_region ?_
    refine L_q (Q_assign rfl) rfl rfl rfl ?_
    refine L_q (Q_assign rfl) rfl rfl rfl ?_
    refine L_q (Q_assign rfl) rfl rfl rfl ?_
    refine JL_nil ?_
    refine seqQ_normal ?_
    refine J_ret ?_
    refine seqQ_ret ?_
    exact retQ_ret _ [] (.cons (RV_tmp rfl) (.cons (RV_tmp rfl) (.cons (RV_tmp rfl) .nil))) ⟨rfl, rfl⟩ (Ent.refl _)
  have hb := be_lt4 (s.take 4) 4 (by simp; omega)
  refine J_skip ?_
  refine seqQ_normal ?_
  refine J_seq ?_
  refine J_region ?_
  refine L_q (Q_move rfl) rfl rfl rfl ?_
  refine L_o rfl rfl rfl (O_call [] [0] (number_ok E s (by omega)) rfl rfl ?_)
  rintro _ _ ⟨rfl, rfl⟩
  refine JL.norm ?_
  refine L_q (Q_assign rfl) rfl rfl rfl ?_
  refine JL_nil ?_
  refine seqQ_normal ?_
  refine J_seq ?_
  refine J_seq ?_
  refine J_region ?_
  refine L_q (Q_move rfl) rfl rfl rfl ?_
  refine L_q (Q_gtr rfl rfl) rfl rfl rfl ?_
  refine JL_nil ?_
  refine seqQ_normal ?_
  refine J_condD rfl (fun h1 => ?_) (fun h1 => ?_)
  · rw [show recV s = .tuple #[str [], .int .i64 0, .int .i64 3] by unfold recV recNext; rw [if_neg (by omega), if_pos (by omega)]; rfl]
    refine J_seq ?_
    refine J_region ?_
    refine L_q (Q_assign rfl) rfl rfl rfl ?_
    refine L_q (Q_assign rfl) rfl rfl rfl ?_
    refine L_q (Q_assign rfl) rfl rfl rfl ?_
    refine JL_nil ?_
    refine seqQ_normal ?_
    refine J_ret ?_
    refine seqQ_ret ?_
    exact retQ_ret _ [] (.cons (RV_tmp rfl) (.cons (RV_tmp rfl) (.cons (RV_tmp rfl) .nil))) ⟨rfl, rfl⟩ (Ent.refl _)
  have h1' : be (s.take 4) ≤ 4096 := by omega
  refine J_skip ?_
  refine seqQ_normal ?_
  refine J_seq ?_
  refine J_region ?_
  refine L_q (Q_move rfl) rfl rfl rfl ?_
  refine L_q (Q_cvt rfl (by first | exact IntWalk.i64_in _ (by omega) | exact IntWalk.u8_in _ (by omega) | exact IntWalk.u32_in _ (by omega) | exact IntWalk.u64_in _ (by omega) | rfl)) rfl rfl rfl ?_
  refine L_q (Q_add rfl rfl (by first | exact IntWalk.i64_in _ (by omega) | exact IntWalk.u8_in _ (by omega) | exact IntWalk.u32_in _ (by omega) | exact IntWalk.u64_in _ (by omega) | rfl)) rfl rfl rfl ?_
  refine L_q (Q_assign rfl) rfl rfl rfl ?_
  refine JL_nil ?_
  refine seqQ_normal ?_
  refine J_seq ?_
  refine J_seq ?_
  refine J_region ?_
  refine L_q (Q_move rfl) rfl rfl rfl ?_
  refine L_q (Q_slen rfl) rfl rfl rfl ?_
  refine L_q (Q_move rfl) rfl rfl rfl ?_
  refine L_q (Q_lss rfl rfl) rfl rfl rfl ?_
  refine JL_nil ?_
  refine seqQ_normal ?_
  refine J_condD rfl (fun h2 => ?_) (fun h2 => ?_)
  · rw [show recV s = .tuple #[str [], .int .i64 0, .int .i64 2] by unfold recV recNext; rw [if_neg (by omega), if_neg (by omega), if_pos (by omega)]; rfl]
    refine J_seq ?_
    refine J_region ?_
    refine L_q (Q_assign rfl) rfl rfl rfl ?_
    refine L_q (Q_assign rfl) rfl rfl rfl ?_
    refine L_q (Q_assign rfl) rfl rfl rfl ?_
    refine JL_nil ?_
    refine seqQ_normal ?_
    refine J_ret ?_
    refine seqQ_ret ?_
    exact retQ_ret _ [] (.cons (RV_tmp rfl) (.cons (RV_tmp rfl) (.cons (RV_tmp rfl) .nil))) ⟨rfl, rfl⟩ (Ent.refl _)
  have h2' : 8 + be (s.take 4) ≤ s.length := by omega
  have c1 : crcMore 4294967295 (s.take 4) < 2 ^ 32 := crcMore_lt _ _ (by decide)
  have c2 : crcMore (crcMore 4294967295 (s.take 4)) ((s.take (8 + be (s.take 4))).drop 8) < 2 ^ 32 := crcMore_lt _ _ c1
  have c3 : 4294967295 ^^^ crcMore (crcMore 4294967295 (s.take 4)) ((s.take (8 + be (s.take 4))).drop 8) = crc (s.take 4 ++ (s.take (8 + be (s.take 4))).drop 8) := by unfold crc; rw [crcMore_append]
  refine J_skip ?_
  refine seqQ_normal ?_
  refine J_seq ?_
  refine J_seq ?_
  refine J_region ?_
  refine L_q (Q_move rfl) rfl rfl rfl ?_
  refine L_q (Q_move rfl) rfl rfl rfl ?_
  refine L_q (Q_ssLH 8 (8 + be (s.take 4)) rfl rfl rfl rfl (by omega) (by omega) h2') rfl rfl rfl ?_
  refine L_q (Q_assign rfl) rfl rfl rfl ?_
  refine JL_nil ?_
  refine seqQ_normal ?_
  refine J_seq ?_
  refine J_drawL [0, 1, 3, 5, 6, 7, 9] (.quiet 0 (.quiet 1 (.quiet 3 (.quiet 6 (.quiet 7 (.loud 2 (.loud 4 (.quiet 5 (.loud 8 (.quiet 9 .done)))))))))) Try.mixed (by kernel_rfl) (by kernel_rfl) (by repeat (first | exact retQ_noP | refine seqQ_noP ?_ | refine blockQ_noP ?_ | refine loopQ_noP ?_ | refine scopeQ_noP ?_ | (intro _ _ _ h; cases h.1))) ?_
  refine S_q (Ent.refl _) rfl (Q_move rfl) rfl rfl rfl ?_
  refine S_q (Ent.refl _) rfl (Q_ssH 4 rfl rfl rfl (by omega)) rfl rfl rfl ?_
  refine S_q (Ent.refl _) rfl (Q_move rfl) rfl rfl rfl ?_
  refine S_q (Ent.refl _) rfl (Q_move rfl) rfl rfl rfl ?_
  refine S_q (Ent.refl _) rfl (Q_ssL 4 rfl rfl rfl (by omega)) rfl rfl rfl ?_
  refine S_o rfl rfl rfl rfl (O_call [] [0] (more_ok E 4294967295 (s.take 4) (by decide) (by simp; omega)) rfl rfl ?_)
  (rintro _ _ ⟨rfl, rfl⟩; refine ⟨_, fun _ => ⟨Ent.nrm, Ent.refl _⟩, ?_⟩)
  refine JS.norm ?_
  refine S_o rfl rfl rfl rfl (O_call [] [0] (more_ok E _ _ c1 (by simp; omega)) rfl rfl ?_)
  (rintro _ _ ⟨rfl, rfl⟩; refine ⟨_, fun _ => ⟨Ent.nrm, Ent.refl _⟩, ?_⟩)
  refine JS.norm ?_
  refine S_q (Ent.refl _) rfl ((Q_compl (k := .u32) (crcMore (crcMore 4294967295 (s.take 4)) ((s.take (8 + be (s.take 4))).drop 8)) rfl rfl c2 rfl).as (congrArg (fun z : Nat => Value.int .u32 (z : Int)) c3)) rfl rfl rfl ?_
  refine S_o rfl rfl rfl rfl (O_call [] [0] (number_ok E (s.drop 4) (by simp; omega)) rfl rfl ?_)
  (rintro _ _ ⟨rfl, rfl⟩; refine ⟨_, fun _ => ⟨Ent.nrm, Ent.refl _⟩, ?_⟩)
  refine JS.norm ?_
  refine S_q (Ent.refl _) rfl (Q_eql rfl rfl) rfl rfl rfl ?_
  refine S_nil ?_
  refine seqQ_normal ?_
  refine J_condD rfl (fun h3 => ?_) (fun h3 => ?_)
  · rw [show recV s = .tuple #[str ((s.take (8 + be (s.take 4))).drop 8), .int .i64 ((8 + be (s.take 4) : Nat) : Int), .int .i64 0] by unfold recV recNext; rw [if_neg (by omega), if_neg (by omega), if_neg (by omega), if_pos (by omega)]]
    refine J_seq ?_
    refine J_region ?_
    refine L_q (Q_move rfl) rfl rfl rfl ?_
    refine L_q (Q_move rfl) rfl rfl rfl ?_
    refine L_q (Q_assign rfl) rfl rfl rfl ?_
    refine L_q (Q_assign rfl) rfl rfl rfl ?_
    refine L_q (Q_assign rfl) rfl rfl rfl ?_
    refine JL_nil ?_
    refine seqQ_normal ?_
    refine J_ret ?_
    refine seqQ_ret ?_
    exact retQ_ret _ [] (.cons (RV_tmp rfl) (.cons (RV_tmp rfl) (.cons (RV_tmp rfl) .nil))) ⟨rfl, rfl⟩ (Ent.refl _)
  · rw [show recV s = .tuple #[str [], .int .i64 0, .int .i64 4] by unfold recV recNext; rw [if_neg (by omega), if_neg (by omega), if_neg (by omega), if_neg (by omega)]; rfl]
    refine J_skip ?_
    refine seqQ_normal ?_
    refine J_seq ?_
    refine J_region ?_
    refine L_q (Q_assign rfl) rfl rfl rfl ?_
    refine L_q (Q_assign rfl) rfl rfl rfl ?_
    refine L_q (Q_assign rfl) rfl rfl rfl ?_
    refine JL_nil ?_
    refine seqQ_normal ?_
    refine J_ret ?_
    exact retQ_ret _ [] (.cons (RV_tmp rfl) (.cons (RV_tmp rfl) (.cons (RV_tmp rfl) .nil))) ⟨rfl, rfl⟩ (Ent.refl _)
end Go.Proofs
