/- Part 16 of the texts below the row: Ref37b, RecF, Disk, Seg1, Seg2. -/
import Derived.Test.YtkglhackgghcfaaGreatM15
/- The document's sum, walked. -/
set_option autoImplicit false
namespace Go.Proofs
open Go.SL
attribute [local irreducible] J JL QOp JOp seqQ blockQ loopQ retQ slc cel hex star pur stars Does RV Ent pAt
end Go.Proofs
/- Records, walked. -/
set_option autoImplicit false
namespace Go.Proofs
open Go.SL
attribute [local irreducible] J JL QOp JOp seqQ blockQ loopQ retQ slc cel hex star pur stars Does RV Ent pAt
theorem fourr_ok (E : World) (n : Nat) : Does Tryz.prog E 77 [.int .u32 (n : Int)] [] fun v L => v = str (four n) ∧ L = [] := by
  refine Does.of Tryz.func77 rfl Tryz.ntmps77 rfl rfl fun F => ?_
  refine J.norm ?_
  refine J_seq ?_
  refine J_region ?_
  refine L_q (Q_assign rfl) rfl rfl rfl ?_
  refine JL_nil ?_
  refine seqQ_normal ?_
  refine J_seq ?_
  refine J_region ?_
  refine L_q (Q_move rfl) rfl rfl rfl ?_
  refine L_q (Q_shrN n 24 rfl rfl rfl rfl (by decide)) rfl rfl rfl ?_
  refine L_q (Q_cvtN (n / 2 ^ 24) rfl rfl) rfl rfl rfl ?_
  refine L_q (Q_move rfl) rfl rfl rfl ?_
  refine L_q (Q_shrN n 16 rfl rfl rfl rfl (by decide)) rfl rfl rfl ?_
  refine L_q (Q_cvtN (n / 2 ^ 16) rfl rfl) rfl rfl rfl ?_
  refine L_q (Q_move rfl) rfl rfl rfl ?_
  refine L_q (Q_shrN n 8 rfl rfl rfl rfl (by decide)) rfl rfl rfl ?_
  refine L_q (Q_cvtN (n / 2 ^ 8) rfl rfl) rfl rfl rfl ?_
  refine L_q (Q_move rfl) rfl rfl rfl ?_
  refine L_q (Q_cvtN n rfl rfl) rfl rfl rfl ?_
  refine L_o rfl rfl rfl (O_litP (τ := tB) (m := 4) (sz := 1) (four n) rfl rfl rfl rfl rfl rfl (by decide) (fun S => ?_))
  refine JL.norm ?_
  refine L_q (Q_b2s tB_enc (fun w h => h.rd 0 rfl) rfl) rfl rfl rfl ?_
  refine L_q (Q_assign rfl) rfl rfl rfl ?_
  refine JL_nil ?_
  refine seqQ_normal ?_
  refine J_ret ?_
  exact retQ_ret _ [] (.cons (RV_tmp rfl) .nil) ⟨rfl, rfl⟩ (Ent.re [1] rfl)
theorem number_ok (E : World) (s : List UInt8) (hl : 4 ≤ s.length) : Does Tryz.prog E 85 [str s] [] fun v L => v = .int .u32 (be (s.take 4) : Int) ∧ L = [] := by
  have g0 := s[0].toNat_lt
  have g1 := s[1].toNat_lt
  have g2 := s[2].toNat_lt
  have g3 := s[3].toNat_lt
  have hor := or4 s[0].toNat s[1].toNat s[2].toNat s[3].toNat g1 g2 g3
  rw [← be4 s hl] at hor
  have k1 : s[0].toNat * 2 ^ 24 < 2 ^ 32 := Nat.lt_of_lt_of_le (Nat.mul_lt_mul_of_pos_right g0 (by decide)) (by decide)
  have k2 : s[1].toNat * 2 ^ 16 < 2 ^ 32 := Nat.lt_of_lt_of_le (Nat.mul_lt_mul_of_pos_right g1 (by decide)) (by decide)
  have k3 : s[2].toNat * 2 ^ 8 < 2 ^ 32 := Nat.lt_of_lt_of_le (Nat.mul_lt_mul_of_pos_right g2 (by decide)) (by decide)
  have k4 : s[0].toNat * 2 ^ 24 ||| s[1].toNat * 2 ^ 16 < 2 ^ 32 := Nat.or_lt_two_pow k1 k2
  have k5 : s[0].toNat * 2 ^ 24 ||| s[1].toNat * 2 ^ 16 ||| s[2].toNat * 2 ^ 8 < 2 ^ 32 := Nat.or_lt_two_pow k4 k3
  have c : ∀ m : Nat, m < 256 → m % 2 ^ 32 = m := fun m h => Nat.mod_eq_of_lt (Nat.lt_of_lt_of_le h (by decide))
  have d : ∀ m : Nat, m < 2 ^ 32 → Value.int .u32 ((m % 2 ^ IntKind.u32.bits : Nat) : Int) = .int .u32 (m : Int) := fun m h => by rw [show IntKind.u32.bits = 32 from rfl, Nat.mod_eq_of_lt h]
  have d2 : ∀ m : Nat, m < 256 → Value.int .u32 ((m % 2 ^ IntKind.u32.bits : Nat) : Int) = .int .u32 (m : Int) := fun m h => d m (Nat.lt_of_lt_of_le h (by decide))
  refine Does.of Tryz.func85 rfl Tryz.ntmps85 rfl rfl fun F => ?_
  refine J.norm ?_
  refine J_seq ?_
  refine J_region ?_
  refine L_q (Q_assign rfl) rfl rfl rfl ?_
  refine JL_nil ?_
  refine seqQ_normal ?_
  refine J_seq ?_
  refine J_drawL [0, 1, 2, 3, 4, 5, 6, 7, 8, 9, 10, 11, 12, 13, 14, 15, 16, 17, 18] (.quiet 0 (.quiet 1 (.quiet 2 (.quiet 3 (.quiet 4 (.quiet 5 (.quiet 6 (.quiet 7 (.quiet 8 (.quiet 9 (.quiet 10 (.quiet 11 (.quiet 12 (.quiet 13 (.quiet 14 (.quiet 15 (.quiet 16 (.quiet 17 (.quiet 18 .done))))))))))))))))))) Tryz.mixed (by kernel_rfl) (by kernel_rfl) (by repeat (first | exact retQ_noP | refine seqQ_noP ?_ | refine blockQ_noP ?_ | refine loopQ_noP ?_ | refine scopeQ_noP ?_ | (intro _ _ _ h; cases h.1))) ?_
  refine S_q (Ent.refl _) rfl (Q_move rfl) rfl rfl rfl ?_
  refine S_q (Ent.refl _) rfl (Q_sindex 0 rfl rfl rfl (by omega)) rfl rfl rfl ?_
  refine S_q (Ent.refl _) rfl ((Q_cvtN s[0].toNat rfl rfl).as (d2 _ g0)) rfl rfl rfl ?_
  refine S_q (Ent.refl _) rfl ((Q_shlN s[0].toNat 24 rfl rfl rfl rfl (by decide)).as (d _ k1)) rfl rfl rfl ?_
  refine S_q (Ent.refl _) rfl (Q_move rfl) rfl rfl rfl ?_
  refine S_q (Ent.refl _) rfl (Q_sindex 1 rfl rfl rfl (by omega)) rfl rfl rfl ?_
  refine S_q (Ent.refl _) rfl ((Q_cvtN s[1].toNat rfl rfl).as (d2 _ g1)) rfl rfl rfl ?_
  refine S_q (Ent.refl _) rfl ((Q_shlN s[1].toNat 16 rfl rfl rfl rfl (by decide)).as (d _ k2)) rfl rfl rfl ?_
  refine S_q (Ent.refl _) rfl (Q_orN _ _ rfl rfl rfl rfl k1 k2) rfl rfl rfl ?_
  refine S_q (Ent.refl _) rfl (Q_move rfl) rfl rfl rfl ?_
  refine S_q (Ent.refl _) rfl (Q_sindex 2 rfl rfl rfl (by omega)) rfl rfl rfl ?_
  refine S_q (Ent.refl _) rfl ((Q_cvtN s[2].toNat rfl rfl).as (d2 _ g2)) rfl rfl rfl ?_
  refine S_q (Ent.refl _) rfl ((Q_shlN s[2].toNat 8 rfl rfl rfl rfl (by decide)).as (d _ k3)) rfl rfl rfl ?_
  refine S_q (Ent.refl _) rfl (Q_orN _ _ rfl rfl rfl rfl k4 k3) rfl rfl rfl ?_
  refine S_q (Ent.refl _) rfl (Q_move rfl) rfl rfl rfl ?_
  refine S_q (Ent.refl _) rfl (Q_sindex 3 rfl rfl rfl (by omega)) rfl rfl rfl ?_
  refine S_q (Ent.refl _) rfl ((Q_cvtN s[3].toNat rfl rfl).as (d2 _ g3)) rfl rfl rfl ?_
  refine S_q (Ent.refl _) rfl ((Q_orN _ s[3].toNat rfl rfl rfl rfl k5 (Nat.lt_of_lt_of_le g3 (by decide))).as (v' := .int .u32 (be (s.take 4) : Int)) (by rw [hor])) rfl rfl rfl ?_
  refine S_q (Ent.refl _) rfl (Q_assign rfl) rfl rfl rfl ?_
  refine S_nil ?_
  refine seqQ_normal ?_
  refine J_ret ?_
  exact retQ_ret _ [] (.cons (RV_tmp rfl) .nil) ⟨rfl, rfl⟩ (Ent.refl _)
def frameV (t : List UInt8) : Value := if 4096 < t.length then .tuple #[str [], .int .i64 2] else .tuple #[str (frame t), .int .i64 0]
theorem frame_ok (E : World) (t : List UInt8) : Does Tryz.prog E 60 [str t] [] fun v L => v = frameV t ∧ L = [] := by
  refine Does.of Tryz.func60 rfl Tryz.ntmps60 rfl rfl fun F => ?_
  refine J.norm ?_
  refine J_seq ?_
  refine J_region ?_
  refine L_q (Q_assign rfl) rfl rfl rfl ?_
  refine L_q (Q_assign rfl) rfl rfl rfl ?_
  refine JL_nil ?_
  refine seqQ_normal ?_
  refine J_seq ?_
  refine J_seq ?_
  refine J_region ?_
  refine L_q (Q_move rfl) rfl rfl rfl ?_
  refine L_q (Q_slen rfl) rfl rfl rfl ?_
  refine L_q (Q_gtr rfl rfl) rfl rfl rfl ?_
  refine JL_nil ?_
  refine seqQ_normal ?_
  refine J_condD rfl (fun h => ?_) (fun h => ?_)
  · rw [show frameV t = .tuple #[str [], .int .i64 2] by unfold frameV; rw [if_pos (by omega)]]
    refine J_seq ?_
    refine J_region ?_
    refine L_q (Q_assign rfl) rfl rfl rfl ?_
    refine L_q (Q_assign rfl) rfl rfl rfl ?_
    refine JL_nil ?_
    refine seqQ_normal ?_
    refine J_ret ?_
    refine seqQ_ret ?_
    exact retQ_ret _ [] (.cons (RV_tmp rfl) (.cons (RV_tmp rfl) .nil)) ⟨rfl, rfl⟩ (Ent.refl _)
  · rw [show frameV t = .tuple #[str (frame t), .int .i64 0] by unfold frameV; rw [if_neg (by omega)]]
    have ht : t.length ≤ 4096 := by omega
    have f4 : ∀ n, (four n).length = 4 := fun _ => rfl
    have h1 : crcMore (crcMore 4294967295 (four t.length)) t < 2 ^ 32 := crcMore_lt _ _ (crcMore_lt _ _ (by decide))
    have h2 : 4294967295 ^^^ crcMore (crcMore 4294967295 (four t.length)) t = crc (four t.length ++ t) := by unfold crc; rw [crcMore_append]
    refine J_skip ?_
    refine seqQ_normal ?_
    refine J_seq ?_
    refine J_region ?_
    refine L_q (Q_move rfl) rfl rfl rfl ?_
    refine L_q (Q_slen rfl) rfl rfl rfl ?_
    refine L_q (Q_cvtN t.length rfl rfl) rfl rfl rfl ?_
    refine L_o rfl rfl rfl (O_call [] [0] (fourr_ok E (t.length % 2 ^ 32)) rfl rfl ?_)
    rintro _ _ ⟨rfl, rfl⟩
    refine JL.norm ?_
    refine L_q (Q_assign rfl) rfl rfl rfl ?_
    refine JL_nil ?_
    refine seqQ_normal ?_
    refine J_seq ?_
    rw [Nat.mod_eq_of_lt (a := t.length) (by omega)]
    refine J_region ?_
    refine L_q (Q_move rfl) rfl rfl rfl ?_
    refine L_q (Q_move rfl) rfl rfl rfl ?_
    refine L_o rfl rfl rfl (O_call [] [0] (more_ok E 4294967295 (four t.length) (by decide) (by simp [four])) rfl rfl ?_)
    rintro _ _ ⟨rfl, rfl⟩
    refine JL.norm ?_
    refine L_q (Q_move rfl) rfl rfl rfl ?_
    refine L_o rfl rfl rfl (O_call [] [0] (more_ok E (crcMore 4294967295 (four t.length)) t (crcMore_lt _ _ (by decide)) (by omega)) rfl rfl ?_)
    rintro _ _ ⟨rfl, rfl⟩
    refine JL.norm ?_
    refine L_q (Q_compl (crcMore (crcMore 4294967295 (four t.length)) t) rfl rfl h1 rfl) rfl rfl rfl ?_
    refine L_o rfl rfl rfl (O_call [] [0] (fourr_ok E (4294967295 ^^^ crcMore (crcMore 4294967295 (four t.length)) t)) rfl rfl ?_)
    rintro _ _ ⟨rfl, rfl⟩
    refine JL.norm ?_
    refine L_q (Q_sadd rfl rfl (by rw [f4, f4]; decide)) rfl rfl rfl ?_
    refine L_q (Q_move rfl) rfl rfl rfl ?_
    refine L_q (Q_sadd rfl rfl (by rw [List.length_append, f4, f4]; omega)) rfl rfl rfl ?_
    refine L_q (Q_assign rfl) rfl rfl rfl ?_
    refine L_q (Q_assign rfl) rfl rfl rfl ?_
    refine JL_nil ?_
    refine seqQ_normal ?_
    refine J_ret ?_
    exact retQ_ret _ [] (.cons (RV_tmp rfl) (.cons (RV_tmp rfl) .nil)) ⟨by rw [h2]; rfl, rfl⟩ (Ent.refl _)
def recV (s : List UInt8) : Value := .tuple #[str (recNext s).1, .int .i64 ((recNext s).2.1 : Int), .int .i64 (recNext s).2.2]
theorem next_ok (E : World) (s : List UInt8) (hs : s.length ≤ 100000000) : Does Tryz.prog E 75 [str s] [] fun v L => v = recV s ∧ L = [] := by
  refine Does.of Tryz.func75 rfl Tryz.ntmps75 rfl rfl fun F => ?_
  refine J.norm ?_
  refine J_seq ?_
  refine J_region ?_
  refine L_q (Q_assign rfl) rfl rfl rfl ?_
  refine L_q (Q_assign rfl) rfl rfl rfl ?_
  refine L_q (Q_assign rfl) rfl rfl rfl ?_
  refine JL_nil ?_
  refine seqQ_normal ?_
  refine J_seq ?_
  refine J_seq ?_
  refine J_region ?_
  refine L_q (Q_move rfl) rfl rfl rfl ?_
  refine L_q (Q_slen rfl) rfl rfl rfl ?_
  refine L_q (Q_lss rfl rfl) rfl rfl rfl ?_
  refine JL_nil ?_
  refine seqQ_normal ?_
  refine J_condD rfl (fun h => ?_) (fun h => ?_)
  · rw [show recV s = .tuple #[str [], .int .i64 0, .int .i64 2] by unfold recV recNext; rw [if_pos (by omega)]; rfl]
    refine J_seq ?_
    refine J_region ?_
    refine L_q (Q_assign rfl) rfl rfl rfl ?_
    refine L_q (Q_assign rfl) rfl rfl rfl ?_
    refine L_q (Q_assign rfl) rfl rfl rfl ?_
    refine JL_nil ?_
    refine seqQ_normal ?_
    refine J_ret ?_
    refine seqQ_ret ?_
    exact retQ_ret _ [] (.cons (RV_tmp rfl) (.cons (RV_tmp rfl) (.cons (RV_tmp rfl) .nil))) ⟨rfl, rfl⟩ (Ent.refl _)
  have hb := be_lt4 (s.take 4) 4 (by simp; omega)
  refine J_skip ?_
  refine seqQ_normal ?_
  refine J_seq ?_
  refine J_region ?_
  refine L_q (Q_move rfl) rfl rfl rfl ?_
  refine L_o rfl rfl rfl (O_call [] [0] (number_ok E s (by omega)) rfl rfl ?_)
  rintro _ _ ⟨rfl, rfl⟩
  refine JL.norm ?_
  refine L_q (Q_assign rfl) rfl rfl rfl ?_
  refine JL_nil ?_
  refine seqQ_normal ?_
  refine J_seq ?_
  refine J_seq ?_
  refine J_region ?_
  refine L_q (Q_move rfl) rfl rfl rfl ?_
  refine L_q (Q_gtr rfl rfl) rfl rfl rfl ?_
  refine JL_nil ?_
  refine seqQ_normal ?_
  refine J_condD rfl (fun h1 => ?_) (fun h1 => ?_)
  · rw [show recV s = .tuple #[str [], .int .i64 0, .int .i64 3] by unfold recV recNext; rw [if_neg (by omega), if_pos (by omega)]; rfl]
    refine J_seq ?_
    refine J_region ?_
    refine L_q (Q_assign rfl) rfl rfl rfl ?_
    refine L_q (Q_assign rfl) rfl rfl rfl ?_
    refine L_q (Q_assign rfl) rfl rfl rfl ?_
    refine JL_nil ?_
    refine seqQ_normal ?_
    refine J_ret ?_
    refine seqQ_ret ?_
    exact retQ_ret _ [] (.cons (RV_tmp rfl) (.cons (RV_tmp rfl) (.cons (RV_tmp rfl) .nil))) ⟨rfl, rfl⟩ (Ent.refl _)
  have h1' : be (s.take 4) ≤ 4096 := by omega
  refine J_skip ?_
  refine seqQ_normal ?_
  refine J_seq ?_
  refine J_region ?_
  refine L_q (Q_move rfl) rfl rfl rfl ?_
  refine L_q (Q_cvt rfl (by first | exact IntWalk.i64_in _ (by omega) | exact IntWalk.u8_in _ (by omega) | exact IntWalk.u32_in _ (by omega) | exact IntWalk.u64_in _ (by omega) | rfl)) rfl rfl rfl ?_
  refine L_q (Q_add rfl rfl (by first | exact IntWalk.i64_in _ (by omega) | exact IntWalk.u8_in _ (by omega) | exact IntWalk.u32_in _ (by omega) | exact IntWalk.u64_in _ (by omega) | rfl)) rfl rfl rfl ?_
  refine L_q (Q_assign rfl) rfl rfl rfl ?_
  refine JL_nil ?_
  refine seqQ_normal ?_
  refine J_seq ?_
  refine J_seq ?_
  refine J_region ?_
  refine L_q (Q_move rfl) rfl rfl rfl ?_
  refine L_q (Q_slen rfl) rfl rfl rfl ?_
  refine L_q (Q_move rfl) rfl rfl rfl ?_
  refine L_q (Q_lss rfl rfl) rfl rfl rfl ?_
  refine JL_nil ?_
  refine seqQ_normal ?_
  refine J_condD rfl (fun h2 => ?_) (fun h2 => ?_)
  · rw [show recV s = .tuple #[str [], .int .i64 0, .int .i64 2] by unfold recV recNext; rw [if_neg (by omega), if_neg (by omega), if_pos (by omega)]; rfl]
    refine J_seq ?_
    refine J_region ?_
    refine L_q (Q_assign rfl) rfl rfl rfl ?_
    refine L_q (Q_assign rfl) rfl rfl rfl ?_
    refine L_q (Q_assign rfl) rfl rfl rfl ?_
    refine JL_nil ?_
    refine seqQ_normal ?_
    refine J_ret ?_
    refine seqQ_ret ?_
    exact retQ_ret _ [] (.cons (RV_tmp rfl) (.cons (RV_tmp rfl) (.cons (RV_tmp rfl) .nil))) ⟨rfl, rfl⟩ (Ent.refl _)
  have h2' : 8 + be (s.take 4) ≤ s.length := by omega
  have c1 : crcMore 4294967295 (s.take 4) < 2 ^ 32 := crcMore_lt _ _ (by decide)
  have c2 : crcMore (crcMore 4294967295 (s.take 4)) ((s.take (8 + be (s.take 4))).drop 8) < 2 ^ 32 := crcMore_lt _ _ c1
  have c3 : 4294967295 ^^^ crcMore (crcMore 4294967295 (s.take 4)) ((s.take (8 + be (s.take 4))).drop 8) = crc (s.take 4 ++ (s.take (8 + be (s.take 4))).drop 8) := by unfold crc; rw [crcMore_append]
  refine J_skip ?_
  refine seqQ_normal ?_
  refine J_seq ?_
  refine J_seq ?_
  refine J_region ?_
  refine L_q (Q_move rfl) rfl rfl rfl ?_
  refine L_q (Q_move rfl) rfl rfl rfl ?_
  refine L_q (Q_ssLH 8 (8 + be (s.take 4)) rfl rfl rfl rfl (by omega) (by omega) h2') rfl rfl rfl ?_
  refine L_q (Q_assign rfl) rfl rfl rfl ?_
  refine JL_nil ?_
  refine seqQ_normal ?_
  refine J_seq ?_
  refine J_drawL [0, 1, 3, 5, 6, 7, 9] (.quiet 0 (.quiet 1 (.quiet 3 (.quiet 6 (.quiet 7 (.loud 2 (.loud 4 (.quiet 5 (.loud 8 (.quiet 9 .done)))))))))) Tryz.mixed (by kernel_rfl) (by kernel_rfl) (by repeat (first | exact retQ_noP | refine seqQ_noP ?_ | refine blockQ_noP ?_ | refine loopQ_noP ?_ | refine scopeQ_noP ?_ | (intro _ _ _ h; cases h.1))) ?_
  refine S_q (Ent.refl _) rfl (Q_move rfl) rfl rfl rfl ?_
  refine S_q (Ent.refl _) rfl (Q_ssH 4 rfl rfl rfl (by omega)) rfl rfl rfl ?_
  refine S_q (Ent.refl _) rfl (Q_move rfl) rfl rfl rfl ?_
  refine S_q (Ent.refl _) rfl (Q_move rfl) rfl rfl rfl ?_
  refine S_q (Ent.refl _) rfl (Q_ssL 4 rfl rfl rfl (by omega)) rfl rfl rfl ?_
  refine S_o rfl rfl rfl rfl (O_call [] [0] (more_ok E 4294967295 (s.take 4) (by decide) (by simp; omega)) rfl rfl ?_)
  (rintro _ _ ⟨rfl, rfl⟩; refine ⟨_, fun _ => ⟨Ent.nrm, Ent.refl _⟩, ?_⟩)
  refine JS.norm ?_
  refine S_o rfl rfl rfl rfl (O_call [] [0] (more_ok E _ _ c1 (by simp; omega)) rfl rfl ?_)
  (rintro _ _ ⟨rfl, rfl⟩; refine ⟨_, fun _ => ⟨Ent.nrm, Ent.refl _⟩, ?_⟩)
  refine JS.norm ?_
  refine S_q (Ent.refl _) rfl ((Q_compl (k := .u32) (crcMore (crcMore 4294967295 (s.take 4)) ((s.take (8 + be (s.take 4))).drop 8)) rfl rfl c2 rfl).as (congrArg (fun z : Nat => Value.int .u32 (z : Int)) c3)) rfl rfl rfl ?_
  refine S_o rfl rfl rfl rfl (O_call [] [0] (number_ok E (s.drop 4) (by simp; omega)) rfl rfl ?_)
  (rintro _ _ ⟨rfl, rfl⟩; refine ⟨_, fun _ => ⟨Ent.nrm, Ent.refl _⟩, ?_⟩)
  refine JS.norm ?_
  refine S_q (Ent.refl _) rfl (Q_eql rfl rfl) rfl rfl rfl ?_
  refine S_nil ?_
  refine seqQ_normal ?_
  refine J_condD rfl (fun h3 => ?_) (fun h3 => ?_)
  · rw [show recV s = .tuple #[str ((s.take (8 + be (s.take 4))).drop 8), .int .i64 ((8 + be (s.take 4) : Nat) : Int), .int .i64 0] by unfold recV recNext; rw [if_neg (by omega), if_neg (by omega), if_neg (by omega), if_pos (by omega)]]
    refine J_seq ?_
    refine J_region ?_
    refine L_q (Q_move rfl) rfl rfl rfl ?_
    refine L_q (Q_move rfl) rfl rfl rfl ?_
    refine L_q (Q_assign rfl) rfl rfl rfl ?_
    refine L_q (Q_assign rfl) rfl rfl rfl ?_
    refine L_q (Q_assign rfl) rfl rfl rfl ?_
    refine JL_nil ?_
    refine seqQ_normal ?_
    refine J_ret ?_
    refine seqQ_ret ?_
    exact retQ_ret _ [] (.cons (RV_tmp rfl) (.cons (RV_tmp rfl) (.cons (RV_tmp rfl) .nil))) ⟨rfl, rfl⟩ (Ent.refl _)
  · rw [show recV s = .tuple #[str [], .int .i64 0, .int .i64 4] by unfold recV recNext; rw [if_neg (by omega), if_neg (by omega), if_neg (by omega), if_neg (by omega)]; rfl]
    refine J_skip ?_
    refine seqQ_normal ?_
    refine J_seq ?_
    refine J_region ?_
    refine L_q (Q_assign rfl) rfl rfl rfl ?_
    refine L_q (Q_assign rfl) rfl rfl rfl ?_
    refine L_q (Q_assign rfl) rfl rfl rfl ?_
    refine JL_nil ?_
    refine seqQ_normal ?_
    refine J_ret ?_
    exact retQ_ret _ [] (.cons (RV_tmp rfl) (.cons (RV_tmp rfl) (.cons (RV_tmp rfl) .nil))) ⟨rfl, rfl⟩ (Ent.refl _)
theorem prefix_ok (E : World) (s : List UInt8) (hs : s.length ≤ 1000000) : Does Tryz.prog E 71 [str s] [] fun v L => ∃ S : SV, v = .tuple #[S.v, .int .i64 ((prefixR s).2 : Int)] ∧ L = [slc tS true S (prefixR s).1] := by
  refine Does.of Tryz.func71 rfl Tryz.ntmps71 rfl rfl fun F => ?_
  refine J.norm ?_
  refine J_seq ?_
  refine J_region ?_
  refine L_q (Q_assign rfl) rfl rfl rfl ?_
  refine L_q (Q_assign rfl) rfl rfl rfl ?_
  refine JL_nil ?_
  refine seqQ_normal ?_
  refine J_seq ?_
  refine J_region ?_
  refine L_q (Q_assign rfl) rfl rfl rfl ?_
  refine JL_nil ?_
  refine seqQ_normal ?_
  refine J_seq ?_
  refine J_region ?_
  refine L_q (Q_assign rfl) rfl rfl rfl ?_
  refine JL_nil ?_
  refine seqQ_normal ?_
  refine J_block ?_
  refine J.ent (Ent.mk fun _ _ h => (h.lay_nil tS true : Sat _ _ (slc tS true SV.nil [] :: _))) ?_
  refine J_loop (fun i : List (List UInt8) × SV × Nat => i.2.2 ≤ s.length ∧ i.1.length ≤ i.2.2 ∧ prefixR s = (i.1 ++ (prefixR (s.drop i.2.2)).1, i.2.2 + (prefixR (s.drop i.2.2)).2)) (fun i => [(0, str s), (4, i.2.1.v), (5, .int .i64 (i.2.2 : Int))])
    (fun i => [slc tS true i.2.1 i.1, F]) (fun i => s.length - i.2.2) ([], SV.nil, 0) ⟨by simp, by simp, by simp⟩ ⟨rfl, rfl, rfl, trivial⟩ (Ent.refl _) ?_
  rintro ⟨l, S, k⟩ ⟨h1, h2, h3⟩
  dsimp only at h1 h2 h3 ⊢
  have hn := next_ok E (s.drop k) (by simp; omega)
  have hd : (s.drop k).length = s.length - k := by simp
  rcases hx : recNext (s.drop k) with ⟨t, n, e⟩
  have hv : recV (s.drop k) = .tuple #[str t, .int .i64 (n : Int), .int .i64 e] := by unfold recV; rw [hx]
  rw [hv] at hn
  by_cases he : e = 0
  · subst he
    obtain ⟨q1, q2, q3, q4⟩ := recNext_ok hx
    rw [prefixR_step hx] at h3
    refine J_block ?_
    refine J_seq ?_
    refine J_region ?_
    refine L_q (Q_move rfl) rfl rfl rfl ?_
    refine L_q (Q_move rfl) rfl rfl rfl ?_
    refine L_q (Q_ssL k rfl rfl rfl h1) rfl rfl rfl ?_
    refine L_o rfl rfl rfl (O_call [] [0,1] hn rfl rfl ?_)
    rintro _ _ ⟨rfl, rfl⟩
    refine JL.norm ?_
    refine L_q (Q_move rfl) rfl rfl rfl ?_
    refine L_q (Q_extract (v := str t) rfl rfl) rfl rfl rfl ?_
    refine L_q (Q_extract (v := .int .i64 (n : Int)) rfl rfl) rfl rfl rfl ?_
    refine L_q (Q_extract (v := .int .i64 0) rfl rfl) rfl rfl rfl ?_
    refine L_q (Q_assign rfl) rfl rfl rfl ?_
    refine L_q (Q_assign rfl) rfl rfl rfl ?_
    refine L_q (Q_assign rfl) rfl rfl rfl ?_
    refine JL_nil ?_
    refine seqQ_normal ?_
    refine J_seq ?_
    refine J_seq ?_
    refine J_region ?_
    refine L_q (Q_move rfl) rfl rfl rfl ?_
    refine L_q ((Q_neq rfl rfl).as (v' := .bool false) rfl) rfl rfl rfl ?_
    refine JL_nil ?_
    refine seqQ_normal ?_
    refine J_condF rfl ?_
    refine J_skip ?_
    refine seqQ_normal ?_
    refine J_region ?_
    refine L_q (Q_move rfl) rfl rfl rfl ?_
    refine L_q (Q_move rfl) rfl rfl rfl ?_
    refine L_o rfl rfl rfl (O_litP (τ := tS) (m := 1) (sz := 1) [t] rfl rfl rfl rfl rfl rfl (by decide) (fun S1 => ?_))
    refine JL.norm ?_
    refine L_o rfl rfl rfl (O_app (τ := tS) 1 rfl (fun w h => h.rd 0 rfl) rfl rfl rfl rfl (by simp; omega) (by decide) (fun S2 => ?_))
    refine JL.norm ?_
    refine L_q (Q_move rfl) rfl rfl rfl ?_
    refine L_q (Q_move rfl) rfl rfl rfl ?_
    refine L_q (Q_add rfl rfl (by first | exact IntWalk.i64_in _ (by omega) | exact IntWalk.u8_in _ (by omega) | exact IntWalk.u32_in _ (by omega) | exact IntWalk.u64_in _ (by omega) | rfl)) rfl rfl rfl ?_
    refine L_q (Q_assign rfl) rfl rfl rfl ?_
    refine L_q (Q_assign rfl) rfl rfl rfl ?_
    refine JL_nil ?_
    refine blockQ_normal ?_
    refine loopQ_normal (l ++ [t], S2, k + n) ⟨by simp only; omega, by simp; omega, ?_⟩ (by simp only; omega) ⟨rfl, rfl, rfl, trivial⟩ (Ent.re [1, 2] rfl)
    rw [h3, List.drop_drop]
    simp only [List.append_assoc, List.cons_append, List.nil_append, Prod.mk.injEq, true_and]
    omega
  · rw [prefixR_stop (s := s.drop k) (by rw [hx]; exact he)] at h3
    refine J_block ?_
    refine J_seq ?_
    refine J_region ?_
    refine L_q (Q_move rfl) rfl rfl rfl ?_
    refine L_q (Q_move rfl) rfl rfl rfl ?_
    refine L_q (Q_ssL k rfl rfl rfl h1) rfl rfl rfl ?_
    refine L_o rfl rfl rfl (O_call [] [0,1] hn rfl rfl ?_)
    rintro _ _ ⟨rfl, rfl⟩
    refine JL.norm ?_
    refine L_q (Q_move rfl) rfl rfl rfl ?_
    refine L_q (Q_extract (v := str t) rfl rfl) rfl rfl rfl ?_
    refine L_q (Q_extract (v := .int .i64 (n : Int)) rfl rfl) rfl rfl rfl ?_
    refine L_q (Q_extract (v := .int .i64 e) rfl rfl) rfl rfl rfl ?_
    refine L_q (Q_assign rfl) rfl rfl rfl ?_
    refine L_q (Q_assign rfl) rfl rfl rfl ?_
    refine L_q (Q_assign rfl) rfl rfl rfl ?_
    refine JL_nil ?_
    refine seqQ_normal ?_
    refine J_seq ?_
    refine J_seq ?_
    refine J_region ?_
    refine L_q (Q_move rfl) rfl rfl rfl ?_
    refine L_q ((Q_neq rfl rfl).as (v' := .bool true) (congrArg Value.bool (decide_eq_true he))) rfl rfl rfl ?_
    refine JL_nil ?_
    refine seqQ_normal ?_
    refine J_condT rfl ?_
    refine J_seq ?_
    refine J_region ?_
    refine L_q (Q_move rfl) rfl rfl rfl ?_
    refine L_q (Q_move rfl) rfl rfl rfl ?_
    refine L_q (Q_assign rfl) rfl rfl rfl ?_
    refine L_q (Q_assign rfl) rfl rfl rfl ?_
    refine JL_nil ?_
    refine seqQ_normal ?_
    refine J_ret ?_
    refine seqQ_ret ?_
    refine blockQ_ret ?_
    refine loopQ_ret ?_
    refine blockQ_ret ?_
    exact retQ_ret _ [slc tS true S l] (.cons (RV_tmp rfl) (.cons (RV_tmp rfl) .nil)) ⟨S, by rw [h3]; rfl, by rw [h3]; simp⟩ (Ent.refl _)
end Go.Proofs
/- The disk's functions: what each does to the disk behind its pointer. -/
set_option autoImplicit false
namespace Go.Proofs
open Go.SL
attribute [local irreducible] J JL QOp JOp seqQ blockQ loopQ retQ slc cel hex star pur stars Does RV Ent pAt

def diskAt (p : Nat) (d : Dk) : HProp := hex fun S : SV => star (cel p [S.v, .int .i64 (d.s : Int)] 130) (slc tB true S d.b)
theorem diskAt_mk {p : Nat} {d : Dk} {S : SV} {t : Nat} {R : List HProp} (ht : t = 130) : Ent (cel p [S.v, .int .i64 (d.s : Int)] t :: slc tB true S d.b :: R) (diskAt p d :: R) :=
  Ent.mk fun _ _ h => Sat.mkex S (Sat.mkstar (ht ▸ h))

theorem land_one (m : Nat) (h : m < 2 ^ 64) : IntKind.u64.wrap ((BitVec.ofInt 64 (m : Int) &&& BitVec.ofInt 64 1).toNat : Int) = ((m % 2 : Nat) : Int) := by
  have h1 : (BitVec.ofInt 64 (m : Int) &&& BitVec.ofInt 64 1).toNat = m % 2 := by
    rw [BitVec.ofInt_natCast]
    rw [BitVec.toNat_and, BitVec.toNat_ofNat, Nat.mod_eq_of_lt h]
    exact Nat.and_one_is_mod m
  rw [h1]
  exact IntWalk.u64_in _ (by omega)

theorem kept_ok (E : World) (keep k : Nat) (z : Int) (hk : keep < 2 ^ 64) (hz : z = (k : Int)) : Does Tryz.prog E 79 [.int .u64 (keep : Int), .int .i64 z] [] fun v L => v = .bool (decide (k < 64) && (keep >>> k % 2 == 1)) ∧ L = [] := by
  subst hz
  refine Does.of Tryz.func79 rfl Tryz.ntmps79 rfl rfl fun F => ?_
  refine J.norm ?_
  refine J_seq ?_
  refine J_region ?_
  refine L_q (Q_assign rfl) rfl rfl rfl ?_
  refine JL_nil ?_
  refine seqQ_normal ?_
  refine J_seq ?_
  refine J_region ?_
  refine L_q (Q_move rfl) rfl rfl rfl ?_
  refine L_q (Q_lss rfl rfl) rfl rfl rfl ?_
  refine L_q (Q_move rfl) rfl rfl rfl ?_
  refine L_splitD rfl rfl (fun h => ?_) (fun h => ?_)
  · refine L_q (Q_move rfl) rfl rfl rfl ?_
    refine L_q (Q_move rfl) rfl rfl rfl ?_
    refine L_q (Q_shr rfl rfl (by omega) rfl) rfl rfl rfl ?_
    refine L_q (Q_and rfl rfl rfl) rfl rfl rfl ?_
    refine L_q (Q_eql rfl rfl) rfl rfl rfl ?_
    refine L_q (Q_pickT rfl rfl) rfl rfl rfl ?_
    refine L_q (Q_assign rfl) rfl rfl rfl ?_
    refine JL_nil ?_
    refine seqQ_normal ?_
    refine J_ret ?_
    refine retQ_ret _ [] (.cons (RV_tmp rfl) .nil) ⟨?_, rfl⟩ (Ent.refl _)
    have e1 : (keep : Int).fdiv (2 ^ (min (k : Int).toNat IntKind.u64.bits)) = ((keep >>> k : Nat) : Int) := by
      have : min (k : Int).toNat IntKind.u64.bits = k := by simp [IntKind.bits]; omega
      rw [this, Int.fdiv_eq_ediv_of_nonneg _ (by exact_mod_cast Nat.zero_le _), Nat.shiftRight_eq_div_pow]
      simp
    have e2 := land_one (keep >>> k) (Nat.lt_of_le_of_lt (Nat.shiftRight_le keep k) hk)
    have h' : k < 64 := by omega
    simp only [oneOf, e1]
    show Value.bool (decide (IntKind.u64.wrap ((BitVec.ofInt 64 ((keep >>> k : Nat) : Int) &&& BitVec.ofInt 64 1).toNat : Int) = 1)) = _
    rw [e2]
    simp only [h', decide_true, Bool.true_and]
    congr 1
    by_cases e : keep >>> k % 2 = 1
    · simp [e]
    · have : keep >>> k % 2 = 0 := by omega
      simp [this]
  · refine L_n rfl rfl rfl ?_
    refine L_n rfl rfl rfl ?_
    refine L_n rfl rfl rfl ?_
    refine L_n rfl rfl rfl ?_
    refine L_n rfl rfl rfl ?_
    refine L_q (Q_pickF rfl rfl) rfl rfl rfl ?_
    refine L_q (Q_assign rfl) rfl rfl rfl ?_
    refine JL_nil ?_
    refine seqQ_normal ?_
    refine J_ret ?_
    refine retQ_ret _ [] (.cons (RV_tmp rfl) .nil) ⟨?_, rfl⟩ (Ent.refl _)
    have h' : ¬ k < 64 := by omega
    simp [oneOf, h']

theorem text_ok (E : World) (p : Nat) (d : Dk) : Does Tryz.prog E 63 [.pointer (some ⟨p, 0, none⟩)] [diskAt p d] fun v L => v = str d.b ∧ L = [diskAt p d] := by
  refine Does.of Tryz.func63 rfl Tryz.ntmps63 rfl rfl fun F => ?_
  refine J.norm ?_
  refine J.ex fun S => J.star ?_
  refine J_seq ?_
  refine J_region ?_
  refine L_q (Q_assign rfl) rfl rfl rfl ?_
  refine JL_nil ?_
  refine seqQ_normal ?_
  refine J_seq ?_
  refine J_seq ?_
  refine J_region ?_
  refine L_q (Q_move rfl) rfl rfl rfl ?_
  refine L_q (Q_peql rfl rfl) rfl rfl rfl ?_
  refine JL_nil ?_
  refine seqQ_normal ?_
  refine J_condF rfl ?_
  refine J_skip ?_
  refine seqQ_normal ?_
  refine J_seq ?_
  refine J_region ?_
  refine L_q (Q_move rfl) rfl rfl rfl ?_
  refine L_q (Q_nilCheck rfl) rfl rfl rfl ?_
  refine L_q (Q_fa0 rfl) rfl rfl rfl ?_
  refine L_q (Q_ld 0 rfl rfl rfl rfl) rfl rfl rfl ?_
  refine L_q (Q_b2s tB_enc (fun w h => h.rd 1 rfl) rfl) rfl rfl rfl ?_
  refine L_q (Q_assign rfl) rfl rfl rfl ?_
  refine JL_nil ?_
  refine seqQ_normal ?_
  refine J_ret ?_
  exact retQ_ret _ [diskAt p d] (.cons (RV_tmp rfl) .nil) ⟨rfl, rfl⟩ (diskAt_mk rfl)

theorem tear_ok (E : World) (p keep : Nat) (d : Dk) (hk : keep < 2 ^ 64) (hs : d.s ≤ d.b.length) (hb : d.b.length ≤ 65536) :
    Does Tryz.prog E 67 [.pointer (some ⟨p, 0, none⟩), .int .u64 (keep : Int)] [diskAt p d] fun v L => v = .tuple #[] ∧ L = [diskAt p ⟨tear d keep, d.s⟩] := by
  refine Does.of Tryz.func67 rfl Tryz.ntmps67 rfl rfl fun F => ?_
  refine J.norm ?_
  refine J.ex fun S => J.star ?_
  refine J_seq ?_
  refine J_drawL [0, 1, 2, 3, 4, 5, 6, 7, 8, 9, 10] (.quiet 0 (.quiet 1 (.quiet 2 (.quiet 3 (.quiet 4 (.quiet 5 (.quiet 6 (.quiet 7 (.quiet 8 (.quiet 9 (.quiet 10 .done))))))))))) Tryz.mixed (by kernel_rfl) (by kernel_rfl) (by repeat (first | exact retQ_noP | refine seqQ_noP ?_ | refine blockQ_noP ?_ | refine loopQ_noP ?_ | refine scopeQ_noP ?_ | (intro _ _ _ h; cases h.1))) ?_
  refine S_q (Ent.refl _) rfl (Q_move rfl) rfl rfl rfl ?_
  refine S_q (Ent.refl _) rfl (Q_nilCheck rfl) rfl rfl rfl ?_
  refine S_q (Ent.refl _) rfl (Q_fa0 rfl) rfl rfl rfl ?_
  refine S_q (Ent.refl _) rfl (Q_ld 0 rfl rfl rfl rfl) rfl rfl rfl ?_
  refine S_q (Ent.refl _) rfl (Q_quo rfl rfl (by decide) (by first | exact IntWalk.i64_quo _ _ (by omega) | rfl)) rfl rfl rfl ?_
  refine S_q (Ent.refl _) rfl (Q_move rfl) rfl rfl rfl ?_
  refine S_q (Ent.refl _) rfl (Q_nilCheck rfl) rfl rfl rfl ?_
  refine S_q (Ent.refl _) rfl (Q_fa0 rfl) rfl rfl rfl ?_
  refine S_q (Ent.refl _) rfl (Q_ld 0 rfl rfl rfl rfl) rfl rfl rfl ?_
  refine S_q (Ent.refl _) rfl (Q_assign rfl) rfl rfl rfl ?_
  refine S_q (Ent.refl _) rfl (Q_assign rfl) rfl rfl rfl ?_
  refine S_nil ?_
  refine seqQ_normal ?_
  refine J_seq ?_
  refine J_seq ?_
  refine J_region ?_
  refine L_q (Q_move rfl) rfl rfl rfl ?_
  refine L_q (Q_nilCheck rfl) rfl rfl rfl ?_
  refine L_q (Q_fa0 rfl) rfl rfl rfl ?_
  refine L_q (Q_ld 0 rfl rfl rfl rfl) rfl rfl rfl ?_
  refine L_q (Q_assign rfl) rfl rfl rfl ?_
  refine JL_nil ?_
  refine seqQ_normal ?_
  refine J_block ?_
  refine J_loop (fun k => d.s + k ≤ d.b.length) (fun k => [(0, .pointer (some ⟨p, 0, none⟩)), (1, .int .u64 (keep : Int)), (4, .int .i64 (((d.s / 64 : Nat)) : Int)), (5, .int .i64 (endTo keep d.s k : Int)), (6, .int .i64 ((d.s + k : Nat) : Int))])
    (fun k => [cel p [S.v, .int .i64 (d.s : Int)] 130, slc tB true S (torn keep d.s d.b k), F]) (fun k => d.b.length - (d.s + k)) 0 (by omega) ⟨rfl, rfl, rfl, rfl, rfl, trivial⟩ (by rw [torn_zero]; exact Ent.refl _) ?_
  intro k hks
  refine J_seq ?_
  refine J_seq ?_
  refine J_region ?_
  refine L_q (Q_move rfl) rfl rfl rfl ?_
  refine L_q (Q_move rfl) rfl rfl rfl ?_
  refine L_q (Q_nilCheck rfl) rfl rfl rfl ?_
  refine L_q (Q_fa0 rfl) rfl rfl rfl ?_
  refine L_q (Q_ld 0 rfl rfl rfl rfl) rfl rfl rfl ?_
  refine L_q (Q_lenAt 1 rfl rfl) rfl rfl rfl ?_
  refine L_q (Q_lss rfl rfl) rfl rfl rfl ?_
  refine JL_nil ?_
  refine seqQ_normal ?_
  refine J_condD rfl (fun h => ?_) (fun h => ?_)
  · rw [torn_length] at h
    have hlt : d.s + k < d.b.length := by omega
    refine J_skip ?_
    refine seqQ_normal ?_
    refine J_seq ?_
    refine J_block ?_
    refine J_seq ?_
    refine J_region ?_
    refine L_q (Q_move rfl) rfl rfl rfl ?_
    refine L_q (Q_move rfl) rfl rfl rfl ?_
    refine L_q (Q_quo rfl rfl (by decide) (by first | exact IntWalk.i64_quo _ _ (by omega) | rfl)) rfl rfl rfl ?_
    refine L_q (Q_move rfl) rfl rfl rfl ?_
    refine L_q (Q_sub rfl rfl (by first | exact IntWalk.i64_in _ (by omega) | exact IntWalk.u8_in _ (by omega) | exact IntWalk.u32_in _ (by omega) | exact IntWalk.u64_in _ (by omega) | rfl)) rfl rfl rfl ?_
    refine L_o rfl rfl rfl (O_call [] [0,1,2] (kept_ok E keep ((d.s + k) / 64 - d.s / 64) _ hk (by omega)) rfl rfl ?_)
    rintro _ _ ⟨rfl, rfl⟩
    refine JL.norm ?_
    refine JL_nil ?_
    refine seqQ_normal ?_
    refine J_cond rfl (fun hb => ?_) (fun hb => ?_)
    · skip
      refine J_region ?_
      refine L_q (Q_move rfl) rfl rfl rfl ?_
      refine L_q (Q_add rfl rfl (by first | exact IntWalk.i64_in _ (by omega) | exact IntWalk.u8_in _ (by omega) | exact IntWalk.u32_in _ (by omega) | exact IntWalk.u64_in _ (by omega) | rfl)) rfl rfl rfl ?_
      refine L_q (Q_assign rfl) rfl rfl rfl ?_
      refine JL_nil ?_
      refine blockQ_normal ?_
      refine seqQ_normal ?_
      refine J_region ?_
      refine L_q (Q_move rfl) rfl rfl rfl ?_
      refine L_q (Q_add rfl rfl (by first | exact IntWalk.i64_in _ (by omega) | exact IntWalk.u8_in _ (by omega) | exact IntWalk.u32_in _ (by omega) | exact IntWalk.u64_in _ (by omega) | rfl)) rfl rfl rfl ?_
      refine L_q (Q_assign rfl) rfl rfl rfl ?_
      refine JL_nil ?_
      have hb : kb keep d.s (d.s + k) = true := hb
      refine loopQ_normal (k + 1) (by omega) (by omega) ⟨rfl, rfl, rfl, ?_, rfl, trivial⟩ ?_
      · simp only [endTo, hb, if_true]; rfl
      · rw [torn_kept _ _ _ _ hb]; exact Ent.refl _
    · skip
      refine J_region ?_
      refine L_q (Q_move rfl) rfl rfl rfl ?_
      refine L_q (Q_nilCheck rfl) rfl rfl rfl ?_
      refine L_q (Q_fa0 rfl) rfl rfl rfl ?_
      refine L_q (Q_ld 0 rfl rfl rfl rfl) rfl rfl rfl ?_
      refine L_q (Q_move rfl) rfl rfl rfl ?_
      refine L_q (Q_ixAt 1 (d.s + k) rfl rfl rfl rfl (by rw [torn_length]; exact hlt) rfl) rfl rfl rfl ?_
      refine L_s rfl rfl (O_stE 1 (d.s + k) 0 (0 : UInt8) rfl rfl rfl rfl rfl rfl (by simp [Value.oneCell', Value.cells]) (by rw [torn_length]; exact hlt) (by decide) rfl ?_)
      refine JL.norm ?_
      refine JL_nil ?_
      refine blockQ_normal ?_
      refine seqQ_normal ?_
      refine J_region ?_
      refine L_q (Q_move rfl) rfl rfl rfl ?_
      refine L_q (Q_add rfl rfl (by first | exact IntWalk.i64_in _ (by omega) | exact IntWalk.u8_in _ (by omega) | exact IntWalk.u32_in _ (by omega) | exact IntWalk.u64_in _ (by omega) | rfl)) rfl rfl rfl ?_
      refine L_q (Q_assign rfl) rfl rfl rfl ?_
      refine JL_nil ?_
      have hb : kb keep d.s (d.s + k) = false := hb
      refine loopQ_normal (k + 1) (by omega) (by omega) ⟨rfl, rfl, rfl, ?_, rfl, trivial⟩ ?_
      · simp only [endTo, hb]; rfl
      · rw [torn_lost _ _ _ _ hb]; exact Ent.refl _
  · rw [torn_length] at h
    have hkk : k = d.b.length - d.s := by omega
    have he := endTo_le keep d.s k
    refine J_exit ?_
    refine seqQ_exit ?_
    refine loopQ_exit ?_
    refine blockQ_hit ?_
    refine seqQ_normal ?_
    refine J_region ?_
    refine L_q (Q_move rfl) rfl rfl rfl ?_
    refine L_q (Q_move rfl) rfl rfl rfl ?_
    refine L_q (Q_nilCheck rfl) rfl rfl rfl ?_
    refine L_q (Q_fa0 rfl) rfl rfl rfl ?_
    refine L_q (Q_ld 0 rfl rfl rfl rfl) rfl rfl rfl ?_
    refine L_q (Q_move rfl) rfl rfl rfl ?_
    refine L_q (Q_slH (endTo keep d.s k) (fun w h => h.rd 1 rfl) rfl rfl rfl (by rw [torn_length]; omega) rfl) rfl rfl rfl ?_
    refine L_q (Q_nilCheck rfl) rfl rfl rfl ?_
    refine L_q (Q_fa0 rfl) rfl rfl rfl ?_
    refine L_s rfl rfl (O_st1 0 rfl rfl rfl rfl rfl ?_)
    refine JL.norm ?_
    refine JL_nil ?_
    refine retQ_normal [] [diskAt p ⟨tear d keep, d.s⟩] .nil ⟨rfl, rfl⟩ ?_
    refine (Ent.sub 1 0 (endTo keep d.s k) rfl (Nat.zero_le _) (by rw [torn_length]; omega)).trans ?_
    have e : ((torn keep d.s d.b k).take (endTo keep d.s k)).drop 0 = tear d keep := by subst hkk; rfl
    rw [e]
    exact diskAt_mk (d := ⟨tear d keep, d.s⟩) rfl


abbrev acV (a : Ac) : Value := .agg #[.int .i64 a.kind, str a.text, .int .u64 (a.keep : Int)]

theorem new_ok (E : World) : Does Tryz.prog E 62 [] [] fun v L => ∃ p, v = .pointer (some ⟨p, 0, none⟩) ∧ L = [diskAt p ⟨[], 0⟩] := by
  refine Does.of Tryz.func62 rfl Tryz.ntmps62 rfl rfl fun F => ?_
  refine J.norm ?_
  refine J_seq ?_
  refine J_region ?_
  refine L_q (Q_assign rfl) rfl rfl rfl ?_
  refine JL_nil ?_
  refine seqQ_normal ?_
  refine J_seq ?_
  refine J_region ?_
  refine L_q (Q_build rfl) rfl rfl rfl ?_
  refine L_o rfl rfl rfl (O_box rfl fun b2 => ?_)
  refine L_q (Q_assign rfl) rfl rfl rfl ?_
  refine JL_nil ?_
  refine seqQ_normal ?_
  refine J_ret ?_
  refine retQ_ret _ [diskAt b2 ⟨[], 0⟩] (.cons (RV_tmp rfl) .nil) ⟨b2, rfl, rfl⟩ ?_
  exact (Ent.mk fun _ _ h => (h.lay_nil tB true : Sat _ _ (slc tB true SV.nil [] :: _))).trans ((Ent.re [1, 0, 2] rfl).trans (diskAt_mk (S := SV.nil) (d := ⟨[], 0⟩) rfl))

theorem do_ok (E : World) (p : Nat) (d : Dk) (a : Ac) (hk : a.keep < 2 ^ 64) (hd : d.ok) : Does Tryz.prog E 46 [.pointer (some ⟨p, 0, none⟩), acV a] [diskAt p d] fun v L => v = .int .i64 (doD d a).2 ∧ L = [diskAt p (doD d a).1] := by
  obtain ⟨hs, hb⟩ := hd
  have hT := tear_length d a.keep hs
  refine Does.of Tryz.func46 rfl Tryz.ntmps46 rfl rfl fun F => ?_
  refine J.norm ?_
  refine J.ex fun S => J.star ?_
  refine J_seq ?_
  refine J_region ?_
  refine L_o rfl rfl rfl (O_box rfl fun b3 => ?_)
  refine L_q (Q_assign rfl) rfl rfl rfl ?_
  refine JL_nil ?_
  refine seqQ_normal ?_
  refine J_seq ?_
  refine J_seq ?_
  refine J_region ?_
  refine L_q (Q_move rfl) rfl rfl rfl ?_
  refine L_q (Q_peql rfl rfl) rfl rfl rfl ?_
  refine JL_nil ?_
  refine seqQ_normal ?_
  refine J_condF rfl ?_
  refine J_skip ?_
  refine seqQ_normal ?_
  refine J_seq ?_
  refine J_seq ?_
  refine J_region ?_
  refine L_q (Q_fa0 rfl) rfl rfl rfl ?_
  refine L_q (Q_ld 0 rfl rfl rfl rfl) rfl rfl rfl ?_
  refine JL_nil ?_
  refine seqQ_normal ?_
  refine J_block ?_
  refine J_seq ?_
  refine J_block ?_
  refine J_seq ?_
  refine J_block ?_
  refine J_seq ?_
  refine J_block ?_
  refine J_seq ?_
  refine J_block ?_
  refine J_seq ?_
  refine J_seq ?_
  refine J_seq ?_
  refine J_region ?_
  refine L_q (Q_eql rfl rfl) rfl rfl rfl ?_
  refine L_q (Q_assign rfl) rfl rfl rfl ?_
  refine JL_nil ?_
  refine seqQ_normal ?_
  refine J_condD rfl (fun h1 => ?_) (fun h1 => ?_)
  · refine J_exit ?_
    refine seqQ_exit ?_
    refine seqQ_exit ?_
    refine blockQ_hit ?_
    refine seqQ_normal ?_
    refine J_seq ?_
    refine J_seq ?_
    refine J_seq ?_
    refine J_drawL [0, 1, 2, 3, 4, 5, 6, 7, 8, 9] (.quiet 0 (.quiet 1 (.quiet 2 (.quiet 3 (.quiet 4 (.quiet 5 (.quiet 6 (.quiet 7 (.quiet 8 (.quiet 9 .done)))))))))) Tryz.mixed (by kernel_rfl) (by kernel_rfl) (by repeat (first | exact retQ_noP | refine seqQ_noP ?_ | refine blockQ_noP ?_ | refine loopQ_noP ?_ | refine scopeQ_noP ?_ | (intro _ _ _ h; cases h.1))) ?_
    refine S_q (Ent.refl _) rfl (Q_fa0 rfl) rfl rfl rfl ?_
    refine S_q (Ent.refl _) rfl (Q_ld 0 rfl rfl rfl rfl) rfl rfl rfl ?_
    refine S_q (Ent.refl _) rfl (Q_slen rfl) rfl rfl rfl ?_
    refine S_q (Ent.refl _) rfl (Q_move rfl) rfl rfl rfl ?_
    refine S_q (Ent.refl _) rfl (Q_nilCheck rfl) rfl rfl rfl ?_
    refine S_q (Ent.refl _) rfl (Q_fa0 rfl) rfl rfl rfl ?_
    refine S_q (Ent.refl _) rfl (Q_ld 1 rfl rfl rfl rfl) rfl rfl rfl ?_
    refine S_q (Ent.refl _) rfl (Q_lenAt 2 rfl rfl) rfl rfl rfl ?_
    refine S_q (Ent.refl _) rfl (Q_sub rfl rfl (by first | exact IntWalk.i64_in _ (by omega) | exact IntWalk.u8_in _ (by omega) | exact IntWalk.u32_in _ (by omega) | exact IntWalk.u64_in _ (by omega) | rfl)) rfl rfl rfl ?_
    refine S_q (Ent.refl _) rfl (Q_gtr rfl rfl) rfl rfl rfl ?_
    refine S_nil ?_
    refine seqQ_normal ?_
    refine J_condD rfl (fun h2 => ?_) (fun h2 => ?_)
    · refine J_seq ?_
      refine J_region ?_
      refine L_q (Q_assign rfl) rfl rfl rfl ?_
      refine JL_nil ?_
      refine seqQ_normal ?_
      refine J_ret ?_
      refine seqQ_ret ?_
      refine seqQ_ret ?_
      refine blockQ_ret ?_
      refine seqQ_ret ?_
      refine blockQ_ret ?_
      refine seqQ_ret ?_
      refine blockQ_ret ?_
      refine seqQ_ret ?_
      refine blockQ_ret ?_
      refine seqQ_ret ?_
      have e : doD d a = (d, 2) := by unfold doD; rw [if_pos h1, if_pos (by omega)]
      rw [e]
      exact retQ_ret _ [diskAt p d] (.cons (RV_tmp rfl) .nil) ⟨rfl, rfl⟩ ((Ent.re [1, 2, 3] rfl).trans (diskAt_mk rfl))
    · refine J_skip ?_
      refine seqQ_normal ?_
      refine J_drawH [0,1] [0, 1, 2, 3, 4, 5, 6, 8, 9] (.quiet 0 (.quiet 1 (.quiet 2 (.quiet 3 (.quiet 4 (.quiet 5 (.quiet 6 (.loud 7 (.quiet 8 (.quiet 9 (.loud 10 .done))))))))))) Tryz.mixed (by kernel_rfl) (by kernel_rfl) (by repeat (first | exact retQ_noP | refine seqQ_noP ?_ | refine blockQ_noP ?_ | refine loopQ_noP ?_ | refine scopeQ_noP ?_ | (intro _ _ _ h; cases h.1))) ?_
      refine S_q (Ent.re [0,1] rfl) rfl (Q_move rfl) rfl rfl rfl ?_
      refine S_q (Ent.re [0,1] rfl) rfl (Q_move rfl) rfl rfl rfl ?_
      refine S_q (Ent.re [0,1] rfl) rfl (Q_nilCheck rfl) rfl rfl rfl ?_
      refine S_q (Ent.re [0,1] rfl) rfl (Q_fa0 rfl) rfl rfl rfl ?_
      refine S_q (Ent.re [0,1] rfl) rfl (Q_ld 1 rfl rfl rfl rfl) rfl rfl rfl ?_
      refine S_q (Ent.re [0,1] rfl) rfl (Q_fa0 rfl) rfl rfl rfl ?_
      refine S_q (Ent.re [0,1] rfl) rfl (Q_ld 0 rfl rfl rfl rfl) rfl rfl rfl ?_
      refine S_o rfl rfl rfl rfl (O_appS tB_enc 2 rfl rfl rfl rfl rfl (by omega) (by decide) (fun S' => ⟨_, fun _ => ⟨Ent.reN [0,1] rfl, Ent.refl _⟩, ?_⟩))
      refine JS.norm ?_
      refine S_q (Ent.re [0,1] rfl) rfl (Q_nilCheck rfl) rfl rfl rfl ?_
      refine S_q (Ent.re [0,1] rfl) rfl (Q_fa0 rfl) rfl rfl rfl ?_
      refine S_s rfl rfl rfl (O_st1 1 rfl rfl rfl rfl rfl ⟨[], free_no (by kernel_rfl), ?_⟩)
      refine JS.norm ?_
      refine S_nil ?_
      refine seqQ_normal ?_
      refine J_exit ?_
      refine blockQ_miss rfl ?_
      refine seqQ_exit ?_
      refine blockQ_miss rfl ?_
      refine seqQ_exit ?_
      refine blockQ_miss rfl ?_
      refine seqQ_exit ?_
      refine blockQ_hit ?_
      refine seqQ_normal ?_
      refine J_seq ?_
      refine J_region ?_
      refine L_q (Q_assign rfl) rfl rfl rfl ?_
      refine JL_nil ?_
      refine seqQ_normal ?_
      refine J_ret ?_
      have e : doD d a = (⟨d.b ++ a.text, d.s⟩, 0) := by unfold doD; rw [if_pos h1, if_neg (by omega)]
      rw [e]
      exact retQ_ret _ [diskAt p ⟨d.b ++ a.text, d.s⟩] (.cons (RV_tmp rfl) .nil) ⟨rfl, rfl⟩ ((Ent.re [1, 2, 3] rfl).trans (diskAt_mk (d := ⟨d.b ++ a.text, d.s⟩) rfl))
  · refine J_skip ?_
    refine seqQ_normal ?_
    refine J_seq ?_
    refine J_seq ?_
    refine J_region ?_
    refine L_q (Q_eql rfl rfl) rfl rfl rfl ?_
    refine L_q (Q_assign rfl) rfl rfl rfl ?_
    refine JL_nil ?_
    refine seqQ_normal ?_
    refine J_condD rfl (fun h3 => ?_) (fun h3 => ?_)
    · refine J_exit ?_
      refine seqQ_exit ?_
      refine seqQ_exit ?_
      refine blockQ_miss rfl ?_
      refine seqQ_exit ?_
      refine blockQ_hit ?_
      refine seqQ_normal ?_
      refine J_region ?_
      refine L_q (Q_move rfl) rfl rfl rfl ?_
      refine L_q (Q_fa0 rfl) rfl rfl rfl ?_
      refine L_q (Q_ld 0 rfl rfl rfl rfl) rfl rfl rfl ?_
      refine JL.ent ((Ent.re [1, 2, 0, 3] rfl).trans (diskAt_mk rfl)) ?_
      refine L_o rfl rfl rfl (O_call [0] [1,2] (tear_ok E p a.keep d hk hs hb) rfl rfl ?_)
      rintro _ _ ⟨rfl, rfl⟩
      refine JL.norm ?_
      refine JL_nil ?_
      refine blockQ_normal ?_
      refine seqQ_normal ?_
      refine J_seq ?_
      refine J.ex fun S2 => J.star ?_
      refine J_region ?_
      refine L_q (Q_move rfl) rfl rfl rfl ?_
      refine L_q (Q_move rfl) rfl rfl rfl ?_
      refine L_q (Q_nilCheck rfl) rfl rfl rfl ?_
      refine L_q (Q_fa0 rfl) rfl rfl rfl ?_
      refine L_q (Q_ld 0 rfl rfl rfl rfl) rfl rfl rfl ?_
      refine L_q (Q_lenAt 1 rfl rfl) rfl rfl rfl ?_
      refine L_q (Q_nilCheck rfl) rfl rfl rfl ?_
      refine L_q (Q_fa0 rfl) rfl rfl rfl ?_
      refine L_s rfl rfl (O_st1 0 rfl rfl rfl rfl rfl ?_)
      refine JL.norm ?_
      refine JL_nil ?_
      refine seqQ_normal ?_
      refine J_exit ?_
      refine blockQ_miss rfl ?_
      refine seqQ_exit ?_
      refine blockQ_hit ?_
      refine seqQ_normal ?_
      refine J_seq ?_
      refine J_region ?_
      refine L_q (Q_assign rfl) rfl rfl rfl ?_
      refine JL_nil ?_
      refine seqQ_normal ?_
      refine J_ret ?_
      have e : doD d a = (⟨tear d a.keep, (tear d a.keep).length⟩, 0) := by unfold doD; rw [if_neg h1, if_pos h3]
      rw [e]
      exact retQ_ret _ [diskAt p ⟨tear d a.keep, (tear d a.keep).length⟩] (.cons (RV_tmp rfl) .nil) ⟨rfl, rfl⟩ ((Ent.re [0, 1, 3] rfl).trans (diskAt_mk (d := ⟨tear d a.keep, (tear d a.keep).length⟩) rfl))
    · refine J_skip ?_
      refine seqQ_normal ?_
      refine J_seq ?_
      refine J_region ?_
      refine L_q (Q_eql rfl rfl) rfl rfl rfl ?_
      refine L_q (Q_assign rfl) rfl rfl rfl ?_
      refine JL_nil ?_
      refine seqQ_normal ?_
      refine J_condD rfl (fun h2 => ?_) (fun h2 => ?_)
      · refine J_exit ?_
        refine seqQ_exit ?_
        refine blockQ_miss rfl ?_
        refine seqQ_exit ?_
        refine blockQ_miss rfl ?_
        refine seqQ_exit ?_
        refine blockQ_hit ?_
        refine seqQ_normal ?_
        refine J_seq ?_
        refine J_region ?_
        refine L_q (Q_move rfl) rfl rfl rfl ?_
        refine L_q (Q_move rfl) rfl rfl rfl ?_
        refine L_q (Q_nilCheck rfl) rfl rfl rfl ?_
        refine L_q (Q_fa0 rfl) rfl rfl rfl ?_
        refine L_q (Q_ld 1 rfl rfl rfl rfl) rfl rfl rfl ?_
        refine L_q (Q_lenAt 2 rfl rfl) rfl rfl rfl ?_
        refine L_q (Q_nilCheck rfl) rfl rfl rfl ?_
        refine L_q (Q_fa0 rfl) rfl rfl rfl ?_
        refine L_s rfl rfl (O_st1 1 rfl rfl rfl rfl rfl ?_)
        refine JL.norm ?_
        refine JL_nil ?_
        refine seqQ_normal ?_
        refine J_exit ?_
        refine blockQ_miss rfl ?_
        refine seqQ_exit ?_
        refine blockQ_hit ?_
        refine seqQ_normal ?_
        refine J_seq ?_
        refine J_region ?_
        refine L_q (Q_assign rfl) rfl rfl rfl ?_
        refine JL_nil ?_
        refine seqQ_normal ?_
        refine J_ret ?_
        have e : doD d a = (⟨d.b, d.b.length⟩, 0) := by unfold doD; rw [if_neg h1, if_neg h3, if_pos h2]
        rw [e]
        exact retQ_ret _ [diskAt p ⟨d.b, d.b.length⟩] (.cons (RV_tmp rfl) .nil) ⟨rfl, rfl⟩ ((Ent.re [1, 2, 3] rfl).trans (diskAt_mk (d := ⟨d.b, d.b.length⟩) rfl))
      · refine J_skip ?_
        refine seqQ_normal ?_
        refine J_exit ?_
        refine blockQ_miss rfl ?_
        refine seqQ_exit ?_
        refine blockQ_miss rfl ?_
        refine seqQ_exit ?_
        refine blockQ_miss rfl ?_
        refine seqQ_exit ?_
        refine blockQ_hit ?_
        refine seqQ_normal ?_
        refine J_seq ?_
        refine J_seq ?_
        refine J_region ?_
        refine L_q (Q_assign rfl) rfl rfl rfl ?_
        refine JL_nil ?_
        refine seqQ_normal ?_
        refine J_ret ?_
        refine seqQ_ret ?_
        refine blockQ_ret ?_
        refine seqQ_ret ?_
        have e : doD d a = (d, 1) := by unfold doD; rw [if_neg h1, if_neg h3, if_neg h2]
        rw [e]
        exact retQ_ret _ [diskAt p d] (.cons (RV_tmp rfl) .nil) ⟨rfl, rfl⟩ ((Ent.re [1, 2, 3] rfl).trans (diskAt_mk rfl))
end Go.Proofs
/- A log in files: how it lies in cells; its numbers. -/
set_option autoImplicit false
namespace Go.Proofs
open Go.SL
def tI : Ty Nat := ⟨3, 1, fun n => [.int .i64 (n : Int)], fun _ => rfl, by decide, fun a v hv => by simp at hv; subst hv; rfl⟩
instance : TyU Tryz.prog tI.e (.int .i64) := inferInstanceAs (TyU Tryz.prog 3 (.int .i64))
instance : TyI Tryz.prog tI.e 1 (.int .i64 0) 8 := inferInstanceAs (TyI Tryz.prog 3 1 (.int .i64 0) 8)
instance : TyU Tryz.prog 100 (.slice tI.e) := inferInstanceAs (TyU Tryz.prog 100 (.slice 3))
abbrev Fp := Fl × Nat
def tPf : Ty Fp := ⟨93, 1, fun r => [.pointer (some ⟨r.2, 0, none⟩)], fun _ => rfl, by decide, fun a v hv => by simp at hv; subst hv; rfl⟩
instance : TyU Tryz.prog tPf.e (.pointer 103) := inferInstanceAs (TyU Tryz.prog 93 (.pointer 103))
instance : TyI Tryz.prog tPf.e 1 (.pointer none) 8 := inferInstanceAs (TyI Tryz.prog 93 1 (.pointer none) 8)
instance : TyU Tryz.prog 84 (.slice tPf.e) := inferInstanceAs (TyU Tryz.prog 84 (.slice 93))
def fileAt (r : Fp) : HProp := hex fun x : SV × Nat => star (cel r.2 [.int .i64 (r.1.first : Int), x.1.v, .pointer (some ⟨x.2, 0, none⟩)] 103) (star (slc tI true x.1 (ends r.1.l)) (diskAt x.2 r.1.d))
theorem fileAt_mk {f : Fl} {q : Nat} {S : SV} {dp : Nat} {t : Nat} {fi : Nat} {es : List Nat} {d : Dk} {R : List HProp} (ht : t = 103) (h1 : fi = f.first) (h2 : es = ends f.l) (h3 : d = f.d) :
    Ent (cel q [.int .i64 (fi : Int), S.v, .pointer (some ⟨dp, 0, none⟩)] t :: slc tI true S es :: diskAt dp d :: R) (fileAt (f, q) :: R) := by
  subst ht h1 h2 h3
  refine Ent.mk fun E w h => Sat.mkex (S, dp) (Sat.mkstar ?_)
  have h1 : Sat E w (slc tI true S (ends f.l) :: diskAt dp f.d :: cel q [.int .i64 (f.first : Int), S.v, .pointer (some ⟨dp, 0, none⟩)] 103 :: R) := by
    have := Sat.two (A := []) h
    exact Sat.two (A := [_]) this
  have h2 := Sat.mkstar h1
  exact Sat.two (A := []) h2
attribute [local irreducible] J JL QOp JOp seqQ blockQ loopQ retQ slc cel hex star pur stars Does RV Ent pAt
attribute [local irreducible] fileAt
/-- The pointer to the last file. -/
def lastP (ps : List Fp) : Value := match ps.getLast? with
  | none => .pointer none
  | some r => .pointer (some ⟨r.2, 0, none⟩)
theorem lastP_snoc (ps : List Fp) (f : Fl) (q : Nat) : lastP (ps ++ [(f, q)]) = .pointer (some ⟨q, 0, none⟩) := by simp [lastP]
theorem fnext_ok (E : World) (f : Fl) (q : Nat) (h : f.next ≤ 10000000) : Does Tryz.prog E 42 [.pointer (some ⟨q, 0, none⟩)] [fileAt (f, q)] fun v L => v = .int .i64 (f.next : Int) ∧ L = [fileAt (f, q)] := by
  have h' : f.first + f.l.length ≤ 10000000 := h
  have hl := ends_len f.l
  refine Does.of Tryz.func42 rfl Tryz.ntmps42 rfl rfl fun F => ?_
  refine J.norm ?_
  unfold fileAt
  refine J.ex fun x => J.star (J.pick [1, 0, 2] rfl (J.norm (J.star (J.pick [2, 0, 1, 3] rfl (J.norm ?_)))))
  dsimp only
  refine J_seq ?_
  refine J_region ?_
  refine L_q (Q_assign rfl) rfl rfl rfl ?_
  refine JL_nil ?_
  refine seqQ_normal ?_
  refine J_seq ?_
  refine J_drawL [0, 1, 2, 3, 4, 5, 6, 7, 8, 9, 10] (.quiet 0 (.quiet 1 (.quiet 2 (.quiet 3 (.quiet 4 (.quiet 5 (.quiet 6 (.quiet 7 (.quiet 8 (.quiet 9 (.quiet 10 .done))))))))))) Tryz.mixed (by kernel_rfl) (by kernel_rfl) (by repeat (first | exact retQ_noP | refine seqQ_noP ?_ | refine blockQ_noP ?_ | refine loopQ_noP ?_ | refine scopeQ_noP ?_ | (intro _ _ _ h; cases h.1))) ?_
  refine S_q (Ent.refl _) rfl (Q_move rfl) rfl rfl rfl ?_
  refine S_q (Ent.refl _) rfl (Q_nilCheck rfl) rfl rfl rfl ?_
  refine S_q (Ent.refl _) rfl (Q_fa0 rfl) rfl rfl rfl ?_
  refine S_q (Ent.refl _) rfl (Q_ld 0 rfl rfl rfl rfl) rfl rfl rfl ?_
  refine S_q (Ent.refl _) rfl (Q_move rfl) rfl rfl rfl ?_
  refine S_q (Ent.refl _) rfl (Q_nilCheck rfl) rfl rfl rfl ?_
  refine S_q (Ent.refl _) rfl (Q_fa0 rfl) rfl rfl rfl ?_
  refine S_q (Ent.refl _) rfl (Q_ld 0 rfl rfl rfl rfl) rfl rfl rfl ?_
  refine S_q (Ent.refl _) rfl (Q_lenAt 1 rfl rfl) rfl rfl rfl ?_
  refine S_q (Ent.refl _) rfl (Q_add rfl rfl (by first | exact IntWalk.i64_in _ (by omega) | exact IntWalk.u8_in _ (by omega) | exact IntWalk.u32_in _ (by omega) | exact IntWalk.u64_in _ (by omega) | rfl)) rfl rfl rfl ?_
  refine S_q (Ent.refl _) rfl (Q_assign rfl) rfl rfl rfl ?_
  refine S_nil ?_
  refine seqQ_normal ?_
  refine J_ret ?_
  refine retQ_ret _ [fileAt (f, q)] (.cons (RV_tmp rfl) .nil) ⟨?_, by unfold fileAt; rfl⟩ (by
    have := fileAt_mk (f := f) (q := q) (S := x.1) (dp := x.2) (R := [F]) rfl rfl rfl rfl
    exact this)
  simp only [Fl.next, hl, oneOf]
  congr 1
theorem last_ok (E : World) (p size sure : Nat) (S : SV) (ps : List Fp) (hps : ps.length ≤ 16) : Does Tryz.prog E 41 [.pointer (some ⟨p, 0, none⟩)] [cel p [.int .i64 (size : Int), .int .i64 (sure : Int), S.v] 86, slc tPf true S ps] fun v L => v = lastP ps ∧ L = [cel p [.int .i64 (size : Int), .int .i64 (sure : Int), S.v] 86, slc tPf true S ps] := by
  refine Does.of Tryz.func41 rfl Tryz.ntmps41 rfl rfl fun F => ?_
  refine J.norm ?_
  refine J_seq ?_
  refine J_region ?_
  refine L_q (Q_assign rfl) rfl rfl rfl ?_
  refine JL_nil ?_
  refine seqQ_normal ?_
  refine J_seq ?_
  refine J_seq ?_
  refine J_region ?_
  refine L_q (Q_move rfl) rfl rfl rfl ?_
  refine L_q (Q_peql rfl rfl) rfl rfl rfl ?_
  refine L_q (Q_move rfl) rfl rfl rfl ?_
  refine L_q (Q_move rfl) rfl rfl rfl ?_
  refine L_q (Q_nilCheck rfl) rfl rfl rfl ?_
  refine L_q (Q_fa0 rfl) rfl rfl rfl ?_
  refine L_q (Q_ld 0 rfl rfl rfl rfl) rfl rfl rfl ?_
  refine L_q (Q_lenAt 1 rfl rfl) rfl rfl rfl ?_
  refine L_q (Q_eql rfl rfl) rfl rfl rfl ?_
  refine L_q (Q_pickF rfl rfl) rfl rfl rfl ?_
  refine JL_nil ?_
  refine seqQ_normal ?_
  rcases last_cases ps with rfl | ⟨a, ⟨f, q⟩, rfl⟩
  · refine J_condD rfl (fun h => ?_) (fun h => absurd rfl h)
    refine J_seq ?_
    refine J_region ?_
    refine L_q (Q_assign rfl) rfl rfl rfl ?_
    refine JL_nil ?_
    refine seqQ_normal ?_
    refine J_ret ?_
    refine seqQ_ret ?_
    exact retQ_ret _ [cel p [.int .i64 (size : Int), .int .i64 (sure : Int), S.v] 86, slc tPf true S []] (.cons (RV_tmp rfl) .nil) ⟨rfl, rfl⟩ (Ent.refl _)
  · refine J_condD rfl (fun h => absurd h (by simp; omega)) (fun h => ?_)
    have hlen : (a ++ [(f, q)]).length = a.length + 1 := by simp
    rw [hlen] at hps
    have hlt : a.length < (a ++ [(f, q)]).length := by omega
    have hg : (a ++ [(f, q)])[a.length] = (f, q) := by simp
    rw [lastP_snoc]
    refine J_skip ?_
    refine seqQ_normal ?_
    refine J_seq ?_
    refine J_drawH [0,1] [0, 1, 2, 3, 4, 5, 6, 7, 8, 9, 10, 11, 12] (.quiet 0 (.quiet 1 (.quiet 2 (.quiet 3 (.quiet 4 (.quiet 5 (.quiet 6 (.quiet 7 (.quiet 8 (.quiet 9 (.quiet 10 (.quiet 11 (.quiet 12 .done))))))))))))) Tryz.mixed (by kernel_rfl) (by kernel_rfl) (by repeat (first | exact retQ_noP | refine seqQ_noP ?_ | refine blockQ_noP ?_ | refine loopQ_noP ?_ | refine scopeQ_noP ?_ | (intro _ _ _ h; cases h.1))) ?_
    refine S_q (Ent.re [0,1] rfl) rfl (Q_move rfl) rfl rfl rfl ?_
    refine S_q (Ent.re [0,1] rfl) rfl (Q_nilCheck rfl) rfl rfl rfl ?_
    refine S_q (Ent.re [0,1] rfl) rfl (Q_fa0 rfl) rfl rfl rfl ?_
    refine S_q (Ent.re [0,1] rfl) rfl (Q_ld 0 rfl rfl rfl rfl) rfl rfl rfl ?_
    refine S_q (Ent.re [0,1] rfl) rfl (Q_move rfl) rfl rfl rfl ?_
    refine S_q (Ent.re [0,1] rfl) rfl (Q_nilCheck rfl) rfl rfl rfl ?_
    refine S_q (Ent.re [0,1] rfl) rfl (Q_fa0 rfl) rfl rfl rfl ?_
    refine S_q (Ent.re [0,1] rfl) rfl (Q_ld 0 rfl rfl rfl rfl) rfl rfl rfl ?_
    refine S_q (Ent.re [0,1] rfl) rfl (Q_lenAt 1 rfl rfl) rfl rfl rfl ?_
    refine S_q (Ent.re [0,1] rfl) rfl (Q_sub rfl rfl (IntWalk.i64_in _ (by omega))) rfl rfl rfl ?_
    refine S_q (Ent.re [0,1] rfl) rfl (Q_ixAt 1 a.length rfl rfl rfl (by rw [hlen]; omega) hlt rfl) rfl rfl rfl ?_
    refine S_q (Ent.re [0,1] rfl) rfl (Q_ldEAt 1 a.length 0 (v := .pointer (some ⟨q, 0, none⟩)) rfl rfl rfl rfl hlt (by decide) (by rw [hg]; rfl)) rfl rfl rfl ?_
    refine S_q (Ent.re [0,1] rfl) rfl (Q_assign rfl) rfl rfl rfl ?_
    refine S_nil ?_
    refine seqQ_normal ?_
    refine J_ret ?_
    exact retQ_ret _ [cel p [.int .i64 (size : Int), .int .i64 (sure : Int), S.v] 86, slc tPf true S (a ++ [(f, q)])] (.cons (RV_tmp rfl) .nil) ⟨rfl, rfl⟩ (Ent.refl _)
end Go.Proofs
/- A file's disk cut, its records read, its index made anew. -/
set_option autoImplicit false
namespace Go.Proofs
open Go.SL
attribute [local irreducible] J JL QOp JOp seqQ blockQ loopQ retQ slc cel hex star pur stars Does RV Ent pAt
theorem J_file {E : World} {n : Nat} {c : Code} {Q : Post} {ρ : Env} {L : List HProp} {f : Fl} {q : Nat} (h : ∀ (S : SV) (dp : Nat), J Tryz.prog E n c Q ρ (cel q [.int .i64 (f.first : Int), S.v, .pointer (some ⟨dp, 0, none⟩)] 103 :: slc tI true S (ends f.l) :: diskAt dp f.d :: L)) : J Tryz.prog E n c Q ρ (fileAt (f, q) :: L) := by
  unfold fileAt
  refine J.ex fun x => J.star ?_
  refine J.ent (L' := cel q [.int .i64 (f.first : Int), x.1.v, .pointer (some ⟨x.2, 0, none⟩)] 103 :: slc tI true x.1 (ends f.l) :: diskAt x.2 f.d :: L) (Ent.mk fun E w hs => ?_) (h x.1 x.2)
  have h1 := Sat.two (A := []) hs
  have h2 := Sat.star h1
  have h3 : Sat E w (slc tI true x.1 (ends f.l) :: cel q [.int .i64 (f.first : Int), x.1.v, .pointer (some ⟨x.2, 0, none⟩)] 103 :: diskAt x.2 f.d :: L) := Sat.two (A := [_]) h2
  exact Sat.two (A := []) h3
attribute [local irreducible] fileAt diskAt
def cutD (d : Dk) (k : Nat) : Dk := if k < d.b.length then ⟨d.b.take k, min d.s k⟩ else d
theorem cut_ok (E : World) (p k : Nat) (d : Dk) (hd : d.b.length ≤ 65536) (hs : d.s ≤ d.b.length) : Does Tryz.prog E 72 [.pointer (some ⟨p, 0, none⟩), .int .i64 (k : Int)] [diskAt p d] fun v L => v = .tuple #[] ∧ L = [diskAt p (cutD d k)] := by
  refine Does.of Tryz.func72 rfl Tryz.ntmps72 rfl rfl fun F => ?_
  refine J.norm ?_
  unfold diskAt
  refine J.ex fun S => J.star ?_
  refine J_seq ?_
  refine J_region ?_
  refine L_q (Q_move rfl) rfl rfl rfl ?_
  refine L_q ((Q_pneq rfl rfl).as (v' := .bool true) rfl) rfl rfl rfl ?_
  refine L_q (Q_move rfl) rfl rfl rfl ?_
  refine L_q (Q_move rfl) rfl rfl rfl ?_
  refine L_q ((Q_geq rfl rfl).as (v' := .bool true) (congrArg Value.bool (decide_eq_true (by omega)))) rfl rfl rfl ?_
  refine L_q (Q_pickT rfl rfl) rfl rfl rfl ?_
  refine L_q (Q_move rfl) rfl rfl rfl ?_
  refine L_q (Q_move rfl) rfl rfl rfl ?_
  refine L_q (Q_move rfl) rfl rfl rfl ?_
  refine L_q (Q_nilCheck rfl) rfl rfl rfl ?_
  refine L_q (Q_fa0 rfl) rfl rfl rfl ?_
  refine L_q (Q_ld 0 rfl rfl rfl rfl) rfl rfl rfl ?_
  refine L_q (Q_lenAt 1 rfl rfl) rfl rfl rfl ?_
  refine L_q (Q_lss rfl rfl) rfl rfl rfl ?_
  refine L_q (Q_pickT rfl rfl) rfl rfl rfl ?_
  refine JL_nil ?_
  refine seqQ_normal ?_
  refine J_condD rfl (fun h => ?_) (fun h => ?_)
  · have hlt : k < d.b.length := by omega
    have e : cutD d k = ⟨d.b.take k, min d.s k⟩ := by unfold cutD; rw [if_pos hlt]
    refine J_seq ?_
    refine J_region ?_
    refine L_q (Q_move rfl) rfl rfl rfl ?_
    refine L_q (Q_move rfl) rfl rfl rfl ?_
    refine L_q (Q_nilCheck rfl) rfl rfl rfl ?_
    refine L_q (Q_fa0 rfl) rfl rfl rfl ?_
    refine L_q (Q_ld 0 rfl rfl rfl rfl) rfl rfl rfl ?_
    refine L_q (Q_move rfl) rfl rfl rfl ?_
    refine L_q (Q_slH (τ := tB) k (fun w h => h.rd 1 rfl) rfl rfl rfl (by omega) rfl) rfl rfl rfl ?_
    refine L_q (Q_nilCheck rfl) rfl rfl rfl ?_
    refine L_q (Q_fa0 rfl) rfl rfl rfl ?_
    refine L_s rfl rfl (O_st1 0 rfl rfl rfl rfl rfl ?_)
    refine JL.norm ?_
    refine JL_nil ?_
    refine seqQ_normal ?_
    refine J_region ?_
    refine L_q (Q_move rfl) rfl rfl rfl ?_
    refine L_q (Q_move rfl) rfl rfl rfl ?_
    refine L_q (Q_nilCheck rfl) rfl rfl rfl ?_
    refine L_q (Q_fa0 rfl) rfl rfl rfl ?_
    refine L_q (Q_ld 0 rfl rfl rfl rfl) rfl rfl rfl ?_
    refine L_q (Q_move rfl) rfl rfl rfl ?_
    refine L_q (Q_min2 rfl rfl) rfl rfl rfl ?_
    refine L_q (Q_nilCheck rfl) rfl rfl rfl ?_
    refine L_q (Q_fa0 rfl) rfl rfl rfl ?_
    refine L_s rfl rfl (O_st1 0 rfl rfl rfl rfl rfl ?_)
    refine JL.norm ?_
    refine JL_nil ?_
    refine retQ_normal [] [diskAt p (cutD d k)] .nil ⟨rfl, by unfold diskAt; rfl⟩ ?_
    rw [e]
    have hm : min (d.s : Int) (k : Int) = ((min d.s k : Nat) : Int) := by omega
    rw [hm]
    exact (Ent.sub 1 0 k rfl (by omega) (by omega)).trans (diskAt_mk (d := ⟨d.b.take k, min d.s k⟩) (S := S.sub 1 0 k) rfl)
  · have e : cutD d k = d := by unfold cutD; rw [if_neg (by omega)]
    rw [e]
    refine J_skip ?_
    refine retQ_normal [] [diskAt p d] .nil ⟨rfl, by unfold diskAt; rfl⟩ ?_
    exact diskAt_mk rfl
end Go.Proofs
