/- Chapter 18's example. -/
import Derived.Test.YtlaemkgdffgmhaaTys18
set_option autoImplicit false
namespace Go.Proofs
open Go.SL
attribute [local irreducible] J JL QOp JOp seqQ blockQ loopQ retQ slc cel hex star pur stars Does RV Ent pAt

theorem rep_set (k : Nat) (h : k < 100) : (List.replicate k (97 : UInt8) ++ List.replicate (100 - k) 0).set k 97 = List.replicate (k + 1) 97 ++ List.replicate (100 - (k + 1)) 0 := by
  rw [List.set_append_right _ _ (by simp)]
  rw [List.length_replicate, Nat.sub_self, show 100 - k = (100 - (k + 1)) + 1 by omega, List.replicate_succ, List.set_cons_zero, List.replicate_succ', List.append_assoc]
  rfl

theorem aw1 : doD ⟨[], 0⟩ ⟨1, List.replicate 100 97, 0⟩ = (⟨List.replicate 100 97, 0⟩, 0) := by kernel_rfl
theorem aw2 : doD ⟨List.replicate 100 97, 0⟩ ⟨3, [], 2⟩ = (⟨List.replicate 64 0 ++ List.replicate 36 97, 100⟩, 0) := by kernel_rfl
theorem aw3 (d : Dk) : doD d ⟨0, [], 0⟩ = (d, 1) := rfl

theorem awake_ok (E : World) : Does Try.prog E 9 [] [] fun v L => v = .bool true ∧ L = [] := by
  refine Does.of Try.func9 rfl Try.ntmps9 rfl rfl fun F => ?_
  refine J.norm ?_
  repeat first
    | refine J_seq ?_
    | refine seqQ_normal ?_
    | refine J_condT rfl ?_
    | refine J_condF rfl ?_
    | refine J_block ?_
    | refine blockQ_normal ?_
    | refine J_exit ?_
    | refine seqQ_exit ?_
    | refine blockQ_hit ?_
    | refine blockQ_miss rfl ?_
    | refine J_skip ?_
    | refine J_ret ?_
    | refine seqQ_ret ?_
    | refine blockQ_ret ?_
    | refine loopQ_exit ?_
    | refine loopQ_ret ?_
    | refine J_label ?_
  refine J_region ?_
  refine L_q (Q_assign rfl) rfl rfl rfl ?_
  refine JL_nil ?_
  repeat first
    | refine J_seq ?_
    | refine seqQ_normal ?_
    | refine J_condT rfl ?_
    | refine J_condF rfl ?_
    | refine J_block ?_
    | refine blockQ_normal ?_
    | refine J_exit ?_
    | refine seqQ_exit ?_
    | refine blockQ_hit ?_
    | refine blockQ_miss rfl ?_
    | refine J_skip ?_
    | refine J_ret ?_
    | refine seqQ_ret ?_
    | refine blockQ_ret ?_
    | refine loopQ_exit ?_
    | refine loopQ_ret ?_
    | refine J_label ?_
  repeat first
    | refine J_seq ?_
    | refine seqQ_normal ?_
    | refine J_condT rfl ?_
    | refine J_condF rfl ?_
    | refine J_block ?_
    | refine blockQ_normal ?_
    | refine J_exit ?_
    | refine seqQ_exit ?_
    | refine blockQ_hit ?_
    | refine blockQ_miss rfl ?_
    | refine J_skip ?_
    | refine J_ret ?_
    | refine seqQ_ret ?_
    | refine blockQ_ret ?_
    | refine loopQ_exit ?_
    | refine loopQ_ret ?_
    | refine J_label ?_
  refine J_region ?_
  refine L_o rfl rfl rfl (O_call [] [0] (new_ok E) rfl rfl ?_)
  rintro _ _ ⟨p, rfl, rfl⟩
  refine JL.norm ?_
  refine L_q (Q_assign rfl) rfl rfl rfl ?_
  refine JL_nil ?_
  repeat first
    | refine J_seq ?_
    | refine seqQ_normal ?_
    | refine J_condT rfl ?_
    | refine J_condF rfl ?_
    | refine J_block ?_
    | refine blockQ_normal ?_
    | refine J_exit ?_
    | refine seqQ_exit ?_
    | refine blockQ_hit ?_
    | refine blockQ_miss rfl ?_
    | refine J_skip ?_
    | refine J_ret ?_
    | refine seqQ_ret ?_
    | refine blockQ_ret ?_
    | refine loopQ_exit ?_
    | refine loopQ_ret ?_
    | refine J_label ?_
  repeat first
    | refine J_seq ?_
    | refine seqQ_normal ?_
    | refine J_condT rfl ?_
    | refine J_condF rfl ?_
    | refine J_block ?_
    | refine blockQ_normal ?_
    | refine J_exit ?_
    | refine seqQ_exit ?_
    | refine blockQ_hit ?_
    | refine blockQ_miss rfl ?_
    | refine J_skip ?_
    | refine J_ret ?_
    | refine seqQ_ret ?_
    | refine blockQ_ret ?_
    | refine loopQ_exit ?_
    | refine loopQ_ret ?_
    | refine J_label ?_
  refine J_region ?_
  refine L_q (Q_move rfl) rfl rfl rfl ?_
  refine L_q (Q_peql rfl rfl) rfl rfl rfl ?_
  refine JL_nil ?_
  repeat first
    | refine J_seq ?_
    | refine seqQ_normal ?_
    | refine J_condT rfl ?_
    | refine J_condF rfl ?_
    | refine J_block ?_
    | refine blockQ_normal ?_
    | refine J_exit ?_
    | refine seqQ_exit ?_
    | refine blockQ_hit ?_
    | refine blockQ_miss rfl ?_
    | refine J_skip ?_
    | refine J_ret ?_
    | refine seqQ_ret ?_
    | refine blockQ_ret ?_
    | refine loopQ_exit ?_
    | refine loopQ_ret ?_
    | refine J_label ?_
  repeat first
    | refine J_seq ?_
    | refine seqQ_normal ?_
    | refine J_condT rfl ?_
    | refine J_condF rfl ?_
    | refine J_block ?_
    | refine blockQ_normal ?_
    | refine J_exit ?_
    | refine seqQ_exit ?_
    | refine blockQ_hit ?_
    | refine blockQ_miss rfl ?_
    | refine J_skip ?_
    | refine J_ret ?_
    | refine seqQ_ret ?_
    | refine blockQ_ret ?_
    | refine loopQ_exit ?_
    | refine loopQ_ret ?_
    | refine J_label ?_
  refine J_region ?_
  refine L_o rfl rfl rfl (O_mk 100 (0 : UInt8) rfl rfl rfl rfl rfl rfl (by decide) (by decide) (fun S => ?_))
  refine JL.norm ?_
  refine L_q (Q_assign rfl) rfl rfl rfl ?_
  refine JL_nil ?_
  repeat first
    | refine J_seq ?_
    | refine seqQ_normal ?_
    | refine J_condT rfl ?_
    | refine J_condF rfl ?_
    | refine J_block ?_
    | refine blockQ_normal ?_
    | refine J_exit ?_
    | refine seqQ_exit ?_
    | refine blockQ_hit ?_
    | refine blockQ_miss rfl ?_
    | refine J_skip ?_
    | refine J_ret ?_
    | refine seqQ_ret ?_
    | refine blockQ_ret ?_
    | refine loopQ_exit ?_
    | refine loopQ_ret ?_
    | refine J_label ?_
  repeat first
    | refine J_seq ?_
    | refine seqQ_normal ?_
    | refine J_condT rfl ?_
    | refine J_condF rfl ?_
    | refine J_block ?_
    | refine blockQ_normal ?_
    | refine J_exit ?_
    | refine seqQ_exit ?_
    | refine blockQ_hit ?_
    | refine blockQ_miss rfl ?_
    | refine J_skip ?_
    | refine J_ret ?_
    | refine seqQ_ret ?_
    | refine blockQ_ret ?_
    | refine loopQ_exit ?_
    | refine loopQ_ret ?_
    | refine J_label ?_
  refine J_region ?_
  refine L_q (Q_assign rfl) rfl rfl rfl ?_
  refine JL_nil ?_
  repeat first
    | refine J_seq ?_
    | refine seqQ_normal ?_
    | refine J_condT rfl ?_
    | refine J_condF rfl ?_
    | refine J_block ?_
    | refine blockQ_normal ?_
    | refine J_exit ?_
    | refine seqQ_exit ?_
    | refine blockQ_hit ?_
    | refine blockQ_miss rfl ?_
    | refine J_skip ?_
    | refine J_ret ?_
    | refine seqQ_ret ?_
    | refine blockQ_ret ?_
    | refine loopQ_exit ?_
    | refine loopQ_ret ?_
    | refine J_label ?_
  refine J_loop (fun k : Nat => k ≤ 100) (fun k => [(1, .pointer (some ⟨p, 0, none⟩)), (2, S.v), (3, .int .i64 (k : Int))])
    (fun k => [slc tB true S (List.replicate k 97 ++ List.replicate (100 - k) 0), diskAt p ⟨[], 0⟩, F]) (fun k => 100 - k) 0 (by omega) ⟨rfl, rfl, rfl, trivial⟩ (Ent.refl _) ?_
  intro k hk
  repeat first
    | refine J_seq ?_
    | refine seqQ_normal ?_
    | refine J_condT rfl ?_
    | refine J_condF rfl ?_
    | refine J_block ?_
    | refine blockQ_normal ?_
    | refine J_exit ?_
    | refine seqQ_exit ?_
    | refine blockQ_hit ?_
    | refine blockQ_miss rfl ?_
    | refine J_skip ?_
    | refine J_ret ?_
    | refine seqQ_ret ?_
    | refine blockQ_ret ?_
    | refine loopQ_exit ?_
    | refine loopQ_ret ?_
    | refine J_label ?_
  refine J_region ?_
  refine L_q (Q_move rfl) rfl rfl rfl ?_
  refine L_q (Q_lss rfl rfl) rfl rfl rfl ?_
  refine JL_nil ?_
  repeat first
    | refine J_seq ?_
    | refine seqQ_normal ?_
    | refine J_condT rfl ?_
    | refine J_condF rfl ?_
    | refine J_block ?_
    | refine blockQ_normal ?_
    | refine J_exit ?_
    | refine seqQ_exit ?_
    | refine blockQ_hit ?_
    | refine blockQ_miss rfl ?_
    | refine J_skip ?_
    | refine J_ret ?_
    | refine seqQ_ret ?_
    | refine blockQ_ret ?_
    | refine loopQ_exit ?_
    | refine loopQ_ret ?_
    | refine J_label ?_
  refine J_condD rfl (fun h => ?_) (fun h => ?_)
  · have hlt : k < 100 := by omega
    repeat first
      | refine J_seq ?_
      | refine seqQ_normal ?_
      | refine J_condT rfl ?_
      | refine J_condF rfl ?_
      | refine J_block ?_
      | refine blockQ_normal ?_
      | refine J_exit ?_
      | refine seqQ_exit ?_
      | refine blockQ_hit ?_
      | refine blockQ_miss rfl ?_
      | refine J_skip ?_
      | refine J_ret ?_
      | refine seqQ_ret ?_
      | refine blockQ_ret ?_
      | refine loopQ_exit ?_
      | refine loopQ_ret ?_
      | refine J_label ?_
    refine J_region ?_
    refine L_q (Q_move rfl) rfl rfl rfl ?_
    refine L_q (Q_move rfl) rfl rfl rfl ?_
    refine L_q (Q_ixAt 0 k rfl rfl rfl rfl (by simp; omega) rfl) rfl rfl rfl ?_
    refine L_s rfl rfl (O_stE 0 k 0 (97 : UInt8) rfl rfl rfl rfl rfl rfl (by simp [Value.oneCell', Value.cells]) (by simp; omega) (by decide) rfl ?_)
    refine JL.norm ?_
    refine JL_nil ?_
    repeat first
      | refine J_seq ?_
      | refine seqQ_normal ?_
      | refine J_condT rfl ?_
      | refine J_condF rfl ?_
      | refine J_block ?_
      | refine blockQ_normal ?_
      | refine J_exit ?_
      | refine seqQ_exit ?_
      | refine blockQ_hit ?_
      | refine blockQ_miss rfl ?_
      | refine J_skip ?_
      | refine J_ret ?_
      | refine seqQ_ret ?_
      | refine blockQ_ret ?_
      | refine loopQ_exit ?_
      | refine loopQ_ret ?_
      | refine J_label ?_
    repeat first
      | refine J_seq ?_
      | refine seqQ_normal ?_
      | refine J_condT rfl ?_
      | refine J_condF rfl ?_
      | refine J_block ?_
      | refine blockQ_normal ?_
      | refine J_exit ?_
      | refine seqQ_exit ?_
      | refine blockQ_hit ?_
      | refine blockQ_miss rfl ?_
      | refine J_skip ?_
      | refine J_ret ?_
      | refine seqQ_ret ?_
      | refine blockQ_ret ?_
      | refine loopQ_exit ?_
      | refine loopQ_ret ?_
      | refine J_label ?_
    refine J_region ?_
    refine L_q (Q_move rfl) rfl rfl rfl ?_
    refine L_q (Q_add rfl rfl (by first | exact IntWalk.i64_in _ (by omega) | exact IntWalk.u8_in _ (by omega) | exact IntWalk.u32_in _ (by omega) | exact IntWalk.u64_in _ (by omega) | rfl)) rfl rfl rfl ?_
    refine L_q (Q_assign rfl) rfl rfl rfl ?_
    refine JL_nil ?_
    repeat first
      | refine J_seq ?_
      | refine seqQ_normal ?_
      | refine J_condT rfl ?_
      | refine J_condF rfl ?_
      | refine J_block ?_
      | refine blockQ_normal ?_
      | refine J_exit ?_
      | refine seqQ_exit ?_
      | refine blockQ_hit ?_
      | refine blockQ_miss rfl ?_
      | refine J_skip ?_
      | refine J_ret ?_
      | refine seqQ_ret ?_
      | refine blockQ_ret ?_
      | refine loopQ_exit ?_
      | refine loopQ_ret ?_
      | refine J_label ?_
    exact loopQ_normal (k + 1) hlt (by omega) ⟨rfl, rfl, rfl, trivial⟩ (by rw [rep_set k hlt]; exact Ent.refl _)
  · obtain rfl : k = 100 := by omega
    repeat first
      | refine J_seq ?_
      | refine seqQ_normal ?_
      | refine J_condT rfl ?_
      | refine J_condF rfl ?_
      | refine J_block ?_
      | refine blockQ_normal ?_
      | refine J_exit ?_
      | refine seqQ_exit ?_
      | refine blockQ_hit ?_
      | refine blockQ_miss rfl ?_
      | refine J_skip ?_
      | refine J_ret ?_
      | refine seqQ_ret ?_
      | refine blockQ_ret ?_
      | refine loopQ_exit ?_
      | refine loopQ_ret ?_
      | refine J_label ?_
    repeat first
      | refine J_seq ?_
      | refine seqQ_normal ?_
      | refine J_condT rfl ?_
      | refine J_condF rfl ?_
      | refine J_block ?_
      | refine blockQ_normal ?_
      | refine J_exit ?_
      | refine seqQ_exit ?_
      | refine blockQ_hit ?_
      | refine blockQ_miss rfl ?_
      | refine J_skip ?_
      | refine J_ret ?_
      | refine seqQ_ret ?_
      | refine blockQ_ret ?_
      | refine loopQ_exit ?_
      | refine loopQ_ret ?_
      | refine J_label ?_
    refine J_region ?_
    refine L_q (Q_move rfl) rfl rfl rfl ?_
    refine L_q (Q_move rfl) rfl rfl rfl ?_
    refine L_q (Q_b2s tB_enc (fun w h => h.rd 0 rfl) rfl) rfl rfl rfl ?_
    refine L_q (Q_build rfl) rfl rfl rfl ?_
    refine L_o rfl rfl rfl (O_call [1] [0,2] (do_ok E p ⟨[], 0⟩ ⟨1, List.replicate 100 97, 0⟩ (by decide) ⟨by decide, by decide⟩) rfl rfl ?_)
    (rw [aw1]; rintro _ _ ⟨rfl, rfl⟩)
    refine JL.norm ?_
    refine L_q (Q_assign rfl) rfl rfl rfl ?_
    refine JL_nil ?_
    repeat first
      | refine J_seq ?_
      | refine seqQ_normal ?_
      | refine J_condT rfl ?_
      | refine J_condF rfl ?_
      | refine J_block ?_
      | refine blockQ_normal ?_
      | refine J_exit ?_
      | refine seqQ_exit ?_
      | refine blockQ_hit ?_
      | refine blockQ_miss rfl ?_
      | refine J_skip ?_
      | refine J_ret ?_
      | refine seqQ_ret ?_
      | refine blockQ_ret ?_
      | refine loopQ_exit ?_
      | refine loopQ_ret ?_
      | refine J_label ?_
    repeat first
      | refine J_seq ?_
      | refine seqQ_normal ?_
      | refine J_condT rfl ?_
      | refine J_condF rfl ?_
      | refine J_block ?_
      | refine blockQ_normal ?_
      | refine J_exit ?_
      | refine seqQ_exit ?_
      | refine blockQ_hit ?_
      | refine blockQ_miss rfl ?_
      | refine J_skip ?_
      | refine J_ret ?_
      | refine seqQ_ret ?_
      | refine blockQ_ret ?_
      | refine loopQ_exit ?_
      | refine loopQ_ret ?_
      | refine J_label ?_
    refine J_region ?_
    refine L_q (Q_move rfl) rfl rfl rfl ?_
    refine L_q (Q_build rfl) rfl rfl rfl ?_
    refine L_o rfl rfl rfl (O_call [0] [1,2] (do_ok E p ⟨List.replicate 100 97, 0⟩ ⟨3, [], 2⟩ (by decide) ⟨by decide, by simp⟩) rfl rfl ?_)
    (rw [aw2]; rintro _ _ ⟨rfl, rfl⟩)
    refine JL.norm ?_
    refine L_q (Q_assign rfl) rfl rfl rfl ?_
    refine JL_nil ?_
    repeat first
      | refine J_seq ?_
      | refine seqQ_normal ?_
      | refine J_condT rfl ?_
      | refine J_condF rfl ?_
      | refine J_block ?_
      | refine blockQ_normal ?_
      | refine J_exit ?_
      | refine seqQ_exit ?_
      | refine blockQ_hit ?_
      | refine blockQ_miss rfl ?_
      | refine J_skip ?_
      | refine J_ret ?_
      | refine seqQ_ret ?_
      | refine blockQ_ret ?_
      | refine loopQ_exit ?_
      | refine loopQ_ret ?_
      | refine J_label ?_
    have hl : (List.replicate 100 (97 : UInt8) ++ List.replicate (100 - 100) 0).length = 100 := by simp
    repeat first
      | refine J_seq ?_
      | refine seqQ_normal ?_
      | refine J_condT rfl ?_
      | refine J_condF rfl ?_
      | refine J_block ?_
      | refine blockQ_normal ?_
      | refine J_exit ?_
      | refine seqQ_exit ?_
      | refine blockQ_hit ?_
      | refine blockQ_miss rfl ?_
      | refine J_skip ?_
      | refine J_ret ?_
      | refine seqQ_ret ?_
      | refine blockQ_ret ?_
      | refine loopQ_exit ?_
      | refine loopQ_ret ?_
      | refine J_label ?_
    refine J_drawH [1] [0, 1, 2, 3, 4, 5, 6, 7, 10, 11, 12, 13, 14, 15, 16, 17, 18, 20, 21, 22, 23, 24, 26, 27, 28] (.quiet 0 (.quiet 1 (.quiet 2 (.quiet 3 (.quiet 4 (.quiet 5 (.quiet 6 (.quiet 7 (.quiet 11 (.quiet 12 (.quiet 13 (.both 8 (.loud 9 (.quiet 10 (.quiet 14 (.quiet 15 (.quiet 16 (.quiet 17 (.quiet 18 (.loud 19 (.quiet 20 (.quiet 21 (.quiet 22 (.quiet 23 (.quiet 24 (.loud 25 (.quiet 26 (.quiet 27 (.quiet 28 .done))))))))))))))))) 9 (.quiet 10 (.quiet 14 (.loud 8 (.quiet 15 (.quiet 16 (.quiet 17 (.quiet 18 (.loud 19 (.quiet 20 (.quiet 21 (.quiet 22 (.quiet 23 (.quiet 24 (.loud 25 (.quiet 26 (.quiet 27 (.quiet 28 .done))))))))))))))))))))))))))))) Try.mixed (by kernel_rfl) (by kernel_rfl) (by repeat (first | exact retQ_noP | refine seqQ_noP ?_ | refine blockQ_noP ?_ | refine loopQ_noP ?_)) ?_
    refine S_q (Ent.re [1] rfl) rfl (Q_move rfl) rfl rfl rfl ?_
    refine S_q (Ent.re [1] rfl) rfl (Q_eql rfl rfl) rfl rfl rfl ?_
    refine S_q (Ent.re [1] rfl) rfl (Q_move rfl) rfl rfl rfl ?_
    refine S_q (Ent.re [1] rfl) rfl (Q_move rfl) rfl rfl rfl ?_
    refine S_q (Ent.re [1] rfl) rfl (Q_eql rfl rfl) rfl rfl rfl ?_
    first
      | refine S_q (Ent.re [1] rfl) rfl (Q_pickT rfl rfl) rfl rfl rfl ?_
      | refine S_q (Ent.re [1] rfl) rfl (Q_pickF rfl rfl) rfl rfl rfl ?_
      | refine S_q (Ent.re [1] rfl) rfl (Q_pickB rfl rfl rfl) rfl rfl rfl ?_
    refine S_q (Ent.re [1] rfl) rfl (Q_move rfl) rfl rfl rfl ?_
    refine S_q (Ent.re [1] rfl) rfl (Q_move rfl) rfl rfl rfl ?_
    refine S_q (Ent.re [1] rfl) rfl (Q_move rfl) rfl rfl rfl ?_
    refine S_q (Ent.re [1] rfl) rfl (Q_slL 64 (fun w h => h.rd 0 rfl) rfl rfl rfl (by rw [hl]; decide) rfl) rfl rfl rfl ?_
    refine S_q (Ent.re [1] rfl) rfl (Q_b2s tB_enc (fun w h => (h.rd 0 rfl).sub 64 _ (by rw [hl]; decide) (Nat.le_refl _)) rfl) rfl rfl rfl ?_
    refine S_both ?_ ?_
    · refine S_o rfl rfl rfl rfl (O_call [0] [1,2] (text_ok E p _) rfl rfl ?_)
      (rintro _ _ ⟨rfl, rfl⟩; refine ⟨_, fun _ => ⟨Ent.reN [1] rfl, Ent.refl _⟩, ?_⟩)
      refine JS.norm ?_
      refine S_o rfl rfl rfl rfl (O_mk 64 (0 : UInt8) rfl rfl rfl rfl rfl rfl (by decide) (by decide) (fun S2 => ⟨_, fun _ => ⟨Ent.reN [0,2] rfl, Ent.re [1] rfl⟩, ?_⟩))
      refine JS.norm ?_
      refine S_q (Ent.re [0,2] rfl) rfl (Q_b2s tB_enc (fun w h => h.rd 0 rfl) rfl) rfl rfl rfl ?_
      refine S_q (Ent.re [0,2] rfl) rfl (Q_sadd rfl rfl (by simp)) rfl rfl rfl ?_
      refine S_q (Ent.re [0,2] rfl) rfl ((Q_seql rfl rfl).as (v' := .bool true) (congrArg Value.bool (decide_eq_true (by kernel_rfl)))) rfl rfl rfl ?_
      first
        | refine S_q (Ent.re [0,2] rfl) rfl (Q_pickT rfl rfl) rfl rfl rfl ?_
        | refine S_q (Ent.re [0,2] rfl) rfl (Q_pickF rfl rfl) rfl rfl rfl ?_
        | refine S_q (Ent.re [0,2] rfl) rfl (Q_pickB rfl rfl rfl) rfl rfl rfl ?_
      refine S_q (Ent.re [0,2] rfl) rfl (Q_move rfl) rfl rfl rfl ?_
      refine S_q (Ent.re [0,2] rfl) rfl (Q_move rfl) rfl rfl rfl ?_
      refine S_o rfl rfl rfl rfl (O_call [1] [0,2,3] (synced_ok E p _) rfl rfl ?_)
      (rintro _ _ ⟨rfl, rfl⟩; refine ⟨_, fun _ => ⟨Ent.reN [1,2] rfl, Ent.refl _⟩, ?_⟩)
      refine JS.norm ?_
      refine S_q (Ent.re [1,2] rfl) rfl (Q_eql rfl rfl) rfl rfl rfl ?_
      first
        | refine S_q (Ent.re [1,2] rfl) rfl (Q_pickT rfl rfl) rfl rfl rfl ?_
        | refine S_q (Ent.re [1,2] rfl) rfl (Q_pickF rfl rfl) rfl rfl rfl ?_
        | refine S_q (Ent.re [1,2] rfl) rfl (Q_pickB rfl rfl rfl) rfl rfl rfl ?_
      refine S_q (Ent.re [1,2] rfl) rfl (Q_move rfl) rfl rfl rfl ?_
      refine S_q (Ent.re [1,2] rfl) rfl (Q_move rfl) rfl rfl rfl ?_
      refine S_q (Ent.re [1,2] rfl) rfl (Q_build rfl) rfl rfl rfl ?_
      refine S_o rfl rfl rfl rfl (O_call [0] [1,2,3] (do_ok E p _ ⟨0, [], 0⟩ (by decide) ⟨by decide, by decide⟩) rfl rfl ?_)
      (rw [aw3]; rintro _ _ ⟨rfl, rfl⟩; refine ⟨_, fun _ => ⟨Ent.reN [1,2] rfl, Ent.refl _⟩, ?_⟩)
      refine JS.norm ?_
      refine S_q (Ent.re [1,2] rfl) rfl (Q_eql rfl rfl) rfl rfl rfl ?_
      first
        | refine S_q (Ent.re [1,2] rfl) rfl (Q_pickT rfl rfl) rfl rfl rfl ?_
        | refine S_q (Ent.re [1,2] rfl) rfl (Q_pickF rfl rfl) rfl rfl rfl ?_
        | refine S_q (Ent.re [1,2] rfl) rfl (Q_pickB rfl rfl rfl) rfl rfl rfl ?_
      refine S_q (Ent.re [1,2] rfl) rfl (Q_assign rfl) rfl rfl rfl ?_
      refine S_nil ?_
      repeat first
        | refine J_seq ?_
        | refine seqQ_normal ?_
        | refine J_condT rfl ?_
        | refine J_condF rfl ?_
        | refine J_block ?_
        | refine blockQ_normal ?_
        | refine J_exit ?_
        | refine seqQ_exit ?_
        | refine blockQ_hit ?_
        | refine blockQ_miss rfl ?_
        | refine J_skip ?_
        | refine J_ret ?_
        | refine seqQ_ret ?_
        | refine blockQ_ret ?_
        | refine loopQ_exit ?_
        | refine loopQ_ret ?_
        | refine J_label ?_
      exact retQ_ret _ [] (.cons (RV_tmp rfl) .nil) ⟨rfl, rfl⟩ (Ent.re [3] rfl)
    · refine S_o rfl rfl rfl rfl (O_mk 64 (0 : UInt8) rfl rfl rfl rfl rfl rfl (by decide) (by decide) (fun S2 => ⟨_, fun _ => ⟨Ent.reN [0,2] rfl, Ent.re [1] rfl⟩, ?_⟩))
      refine JS.norm ?_
      refine S_q (Ent.re [0,2] rfl) rfl (Q_b2s tB_enc (fun w h => h.rd 0 rfl) rfl) rfl rfl rfl ?_
      refine S_q (Ent.re [0,2] rfl) rfl (Q_sadd rfl rfl (by simp)) rfl rfl rfl ?_
      refine S_o rfl rfl rfl rfl (O_call [1] [0,2,3] (text_ok E p _) rfl rfl ?_)
      (rintro _ _ ⟨rfl, rfl⟩; refine ⟨_, fun _ => ⟨Ent.reN [1,2] rfl, Ent.refl _⟩, ?_⟩)
      refine JS.norm ?_
      refine S_q (Ent.re [1,2] rfl) rfl ((Q_seql rfl rfl).as (v' := .bool true) (congrArg Value.bool (decide_eq_true (by kernel_rfl)))) rfl rfl rfl ?_
      first
        | refine S_q (Ent.re [1,2] rfl) rfl (Q_pickT rfl rfl) rfl rfl rfl ?_
        | refine S_q (Ent.re [1,2] rfl) rfl (Q_pickF rfl rfl) rfl rfl rfl ?_
        | refine S_q (Ent.re [1,2] rfl) rfl (Q_pickB rfl rfl rfl) rfl rfl rfl ?_
      refine S_q (Ent.re [1,2] rfl) rfl (Q_move rfl) rfl rfl rfl ?_
      refine S_q (Ent.re [1,2] rfl) rfl (Q_move rfl) rfl rfl rfl ?_
      refine S_o rfl rfl rfl rfl (O_call [0] [1,2,3] (synced_ok E p _) rfl rfl ?_)
      (rintro _ _ ⟨rfl, rfl⟩; refine ⟨_, fun _ => ⟨Ent.reN [1,2] rfl, Ent.refl _⟩, ?_⟩)
      refine JS.norm ?_
      refine S_q (Ent.re [1,2] rfl) rfl (Q_eql rfl rfl) rfl rfl rfl ?_
      first
        | refine S_q (Ent.re [1,2] rfl) rfl (Q_pickT rfl rfl) rfl rfl rfl ?_
        | refine S_q (Ent.re [1,2] rfl) rfl (Q_pickF rfl rfl) rfl rfl rfl ?_
        | refine S_q (Ent.re [1,2] rfl) rfl (Q_pickB rfl rfl rfl) rfl rfl rfl ?_
      refine S_q (Ent.re [1,2] rfl) rfl (Q_move rfl) rfl rfl rfl ?_
      refine S_q (Ent.re [1,2] rfl) rfl (Q_move rfl) rfl rfl rfl ?_
      refine S_q (Ent.re [1,2] rfl) rfl (Q_build rfl) rfl rfl rfl ?_
      refine S_o rfl rfl rfl rfl (O_call [0] [1,2,3] (do_ok E p _ ⟨0, [], 0⟩ (by decide) ⟨by decide, by decide⟩) rfl rfl ?_)
      (rw [aw3]; rintro _ _ ⟨rfl, rfl⟩; refine ⟨_, fun _ => ⟨Ent.reN [1,2] rfl, Ent.refl _⟩, ?_⟩)
      refine JS.norm ?_
      refine S_q (Ent.re [1,2] rfl) rfl (Q_eql rfl rfl) rfl rfl rfl ?_
      first
        | refine S_q (Ent.re [1,2] rfl) rfl (Q_pickT rfl rfl) rfl rfl rfl ?_
        | refine S_q (Ent.re [1,2] rfl) rfl (Q_pickF rfl rfl) rfl rfl rfl ?_
        | refine S_q (Ent.re [1,2] rfl) rfl (Q_pickB rfl rfl rfl) rfl rfl rfl ?_
      refine S_q (Ent.re [1,2] rfl) rfl (Q_assign rfl) rfl rfl rfl ?_
      refine S_nil ?_
      repeat first
        | refine J_seq ?_
        | refine seqQ_normal ?_
        | refine J_condT rfl ?_
        | refine J_condF rfl ?_
        | refine J_block ?_
        | refine blockQ_normal ?_
        | refine J_exit ?_
        | refine seqQ_exit ?_
        | refine blockQ_hit ?_
        | refine blockQ_miss rfl ?_
        | refine J_skip ?_
        | refine J_ret ?_
        | refine seqQ_ret ?_
        | refine blockQ_ret ?_
        | refine loopQ_exit ?_
        | refine loopQ_ret ?_
        | refine J_label ?_
      exact retQ_ret _ [] (.cons (RV_tmp rfl) .nil) ⟨rfl, rfl⟩ (Ent.re [3] rfl)
end Go.Proofs
