/- What the document tells of the slots. -/
import Derived.Test.YtjpkeibhimimpaaRef37d
import Derived.Test.YtjpkeibhimimpaaSnap5
set_option autoImplicit false
namespace Go.Proofs
open Go.SL
attribute [local irreducible] J JL QOp JOp seqQ blockQ loopQ retQ slc cel hex star pur stars Does RV Ent pAt
theorem rload_ok (E : World) (a b : List UInt8) (ha : a.length ≤ 100000) (hb : b.length ≤ 100000) : Does Try.prog E 21 [.agg #[str a, str b]] [] fun v L => v = .tuple #[str (loadT a b), .int .i64 (loadN a b : Int)] ∧ L = [] := by
  have hf := rfind_ok E a b ha hb
  refine Does.of Try.func21 rfl Try.ntmps21 rfl rfl fun F => ?_
  refine J.norm ?_
  repeat first
    | refine J_seq ?_
    | refine seqQ_normal ?_
    | refine J_condT rfl ?_
    | refine J_condF rfl ?_
    | refine J_block ?_
    | refine blockQ_normal ?_
    | refine J_exit ?_
    | refine seqQ_exit ?_
    | refine blockQ_hit ?_
    | refine blockQ_miss rfl ?_
    | refine J_skip ?_
    | refine J_ret ?_
    | refine seqQ_ret ?_
    | refine blockQ_ret ?_
    | refine loopQ_exit ?_
    | refine loopQ_ret ?_
    | refine J_label ?_
  refine J_region ?_
  refine L_o rfl rfl rfl (O_box rfl fun b1 => ?_)
  refine L_q (Q_assign rfl) rfl rfl rfl ?_
  refine L_q (Q_assign rfl) rfl rfl rfl ?_
  refine JL_nil ?_
  repeat first
    | refine J_seq ?_
    | refine seqQ_normal ?_
    | refine J_condT rfl ?_
    | refine J_condF rfl ?_
    | refine J_block ?_
    | refine blockQ_normal ?_
    | refine J_exit ?_
    | refine seqQ_exit ?_
    | refine blockQ_hit ?_
    | refine blockQ_miss rfl ?_
    | refine J_skip ?_
    | refine J_ret ?_
    | refine seqQ_ret ?_
    | refine blockQ_ret ?_
    | refine loopQ_exit ?_
    | refine loopQ_ret ?_
    | refine J_label ?_
  rcases told_cases a b with ⟨e, hr⟩ | ⟨e, hr⟩ | e
  · rw [e] at hf
    have lb := right_long hr
    have h1 : loadT a b = b.drop 12 := by simp only [loadT, if_pos e]
    have h2 : loadN a b = nw b 1 := by simp only [loadN, if_pos e]
    have hn := nw_lt b 1
    have nb := rnumber_ok E (b.drop 4) (by rw [List.length_drop]; omega)
    rw [show be ((b.drop 4).take 4) = nw b 1 from rfl] at nb
    repeat first
      | refine J_seq ?_
      | refine seqQ_normal ?_
      | refine J_condT rfl ?_
      | refine J_condF rfl ?_
      | refine J_block ?_
      | refine blockQ_normal ?_
      | refine J_exit ?_
      | refine seqQ_exit ?_
      | refine blockQ_hit ?_
      | refine blockQ_miss rfl ?_
      | refine J_skip ?_
      | refine J_ret ?_
      | refine seqQ_ret ?_
      | refine blockQ_ret ?_
      | refine loopQ_exit ?_
      | refine loopQ_ret ?_
      | refine J_label ?_
    refine J_region ?_
    first
      | refine L_q (Q_ldA 0 rfl rfl rfl) rfl rfl rfl ?_
      | refine L_q (Q_ldA 1 rfl rfl rfl) rfl rfl rfl ?_
      | refine L_q (Q_ldA 2 rfl rfl rfl) rfl rfl rfl ?_
      | refine L_q (Q_ldA 3 rfl rfl rfl) rfl rfl rfl ?_
      | refine L_q (Q_ldA 4 rfl rfl rfl) rfl rfl rfl ?_
    refine L_o rfl rfl rfl (O_call [] [0,1] hf rfl rfl ?_)
    rintro _ _ ⟨rfl, rfl⟩
    refine JL.norm ?_
    refine L_q (Q_assign rfl) rfl rfl rfl ?_
    refine JL_nil ?_
    repeat first
      | refine J_seq ?_
      | refine seqQ_normal ?_
      | refine J_condT rfl ?_
      | refine J_condF rfl ?_
      | refine J_block ?_
      | refine blockQ_normal ?_
      | refine J_exit ?_
      | refine seqQ_exit ?_
      | refine blockQ_hit ?_
      | refine blockQ_miss rfl ?_
      | refine J_skip ?_
      | refine J_ret ?_
      | refine seqQ_ret ?_
      | refine blockQ_ret ?_
      | refine loopQ_exit ?_
      | refine loopQ_ret ?_
      | refine J_label ?_
    repeat first
      | refine J_seq ?_
      | refine seqQ_normal ?_
      | refine J_condT rfl ?_
      | refine J_condF rfl ?_
      | refine J_block ?_
      | refine blockQ_normal ?_
      | refine J_exit ?_
      | refine seqQ_exit ?_
      | refine blockQ_hit ?_
      | refine blockQ_miss rfl ?_
      | refine J_skip ?_
      | refine J_ret ?_
      | refine seqQ_ret ?_
      | refine blockQ_ret ?_
      | refine loopQ_exit ?_
      | refine loopQ_ret ?_
      | refine J_label ?_
    refine J_region ?_
    refine L_q (Q_move rfl) rfl rfl rfl ?_
    refine L_q (Q_lss rfl rfl) rfl rfl rfl ?_
    refine JL_nil ?_
    repeat first
      | refine J_seq ?_
      | refine seqQ_normal ?_
      | refine J_condT rfl ?_
      | refine J_condF rfl ?_
      | refine J_block ?_
      | refine blockQ_normal ?_
      | refine J_exit ?_
      | refine seqQ_exit ?_
      | refine blockQ_hit ?_
      | refine blockQ_miss rfl ?_
      | refine J_skip ?_
      | refine J_ret ?_
      | refine seqQ_ret ?_
      | refine blockQ_ret ?_
      | refine loopQ_exit ?_
      | refine loopQ_ret ?_
      | refine J_label ?_
    repeat first
      | refine J_seq ?_
      | refine seqQ_normal ?_
      | refine J_condT rfl ?_
      | refine J_condF rfl ?_
      | refine J_block ?_
      | refine blockQ_normal ?_
      | refine J_exit ?_
      | refine seqQ_exit ?_
      | refine blockQ_hit ?_
      | refine blockQ_miss rfl ?_
      | refine J_skip ?_
      | refine J_ret ?_
      | refine seqQ_ret ?_
      | refine blockQ_ret ?_
      | refine loopQ_exit ?_
      | refine loopQ_ret ?_
      | refine J_label ?_
    refine J_drawH [0] [0, 1, 2, 3, 4, 5, 6, 7, 8, 9, 11, 12, 13] (.quiet 0 (.quiet 1 (.quiet 2 (.quiet 3 (.quiet 4 (.quiet 5 (.quiet 6 (.quiet 7 (.quiet 8 (.quiet 9 (.loud 10 (.quiet 11 (.quiet 12 (.quiet 13 .done)))))))))))))) Try.mixed (by kernel_rfl) (by kernel_rfl) (by repeat (first | exact retQ_noP | refine seqQ_noP ?_ | refine blockQ_noP ?_ | refine loopQ_noP ?_)) ?_
    refine S_q (Ent.re [0] rfl) rfl (Q_move rfl) rfl rfl rfl ?_
    first
      | refine S_q (Ent.re [0] rfl) rfl (Q_fa0 rfl) rfl rfl rfl ?_
      | refine S_q (Ent.re [0] rfl) rfl (Q_fa rfl rfl) rfl rfl rfl ?_
      | refine S_q (Ent.re [0] rfl) rfl (Q_pfa rfl) rfl rfl rfl ?_
    refine S_q (Ent.re [0] rfl) rfl (Q_ia (o' := 1) 1 rfl rfl rfl (by decide) (by decide)) rfl rfl rfl ?_
    first
      | refine S_q (Ent.re [0] rfl) rfl (Q_ld 0 rfl rfl rfl rfl) rfl rfl rfl ?_
      | refine S_q (Ent.re [0] rfl) rfl (Q_ld 1 rfl rfl rfl rfl) rfl rfl rfl ?_
      | refine S_q (Ent.re [0] rfl) rfl (Q_ld 2 rfl rfl rfl rfl) rfl rfl rfl ?_
      | refine S_q (Ent.re [0] rfl) rfl (Q_ld 3 rfl rfl rfl rfl) rfl rfl rfl ?_
      | refine S_q (Ent.re [0] rfl) rfl (Q_ld 4 rfl rfl rfl rfl) rfl rfl rfl ?_
    refine S_q (Ent.re [0] rfl) rfl (Q_ssL 12 rfl rfl rfl lb) rfl rfl rfl ?_
    refine S_q (Ent.re [0] rfl) rfl (Q_move rfl) rfl rfl rfl ?_
    first
      | refine S_q (Ent.re [0] rfl) rfl (Q_fa0 rfl) rfl rfl rfl ?_
      | refine S_q (Ent.re [0] rfl) rfl (Q_fa rfl rfl) rfl rfl rfl ?_
      | refine S_q (Ent.re [0] rfl) rfl (Q_pfa rfl) rfl rfl rfl ?_
    refine S_q (Ent.re [0] rfl) rfl (Q_ia (o' := 1) 1 rfl rfl rfl (by decide) (by decide)) rfl rfl rfl ?_
    first
      | refine S_q (Ent.re [0] rfl) rfl (Q_ld 0 rfl rfl rfl rfl) rfl rfl rfl ?_
      | refine S_q (Ent.re [0] rfl) rfl (Q_ld 1 rfl rfl rfl rfl) rfl rfl rfl ?_
      | refine S_q (Ent.re [0] rfl) rfl (Q_ld 2 rfl rfl rfl rfl) rfl rfl rfl ?_
      | refine S_q (Ent.re [0] rfl) rfl (Q_ld 3 rfl rfl rfl rfl) rfl rfl rfl ?_
      | refine S_q (Ent.re [0] rfl) rfl (Q_ld 4 rfl rfl rfl rfl) rfl rfl rfl ?_
    refine S_q (Ent.re [0] rfl) rfl (Q_ssL 4 rfl rfl rfl (by omega)) rfl rfl rfl ?_
    refine S_o rfl rfl rfl rfl (O_call [] [0,1] nb rfl rfl ?_)
    (rintro _ _ ⟨rfl, rfl⟩; refine ⟨_, fun _ => ⟨Ent.reN [0] rfl, Ent.refl _⟩, ?_⟩)
    refine JS.norm ?_
    refine S_q (Ent.re [0] rfl) rfl (Q_cvt rfl (IntWalk.i64_in _ (by omega))) rfl rfl rfl ?_
    refine S_q (Ent.re [0] rfl) rfl (Q_assign rfl) rfl rfl rfl ?_
    refine S_q (Ent.re [0] rfl) rfl (Q_assign rfl) rfl rfl rfl ?_
    refine S_nil ?_
    repeat first
      | refine J_seq ?_
      | refine seqQ_normal ?_
      | refine J_condT rfl ?_
      | refine J_condF rfl ?_
      | refine J_block ?_
      | refine blockQ_normal ?_
      | refine J_exit ?_
      | refine seqQ_exit ?_
      | refine blockQ_hit ?_
      | refine blockQ_miss rfl ?_
      | refine J_skip ?_
      | refine J_ret ?_
      | refine seqQ_ret ?_
      | refine blockQ_ret ?_
      | refine loopQ_exit ?_
      | refine loopQ_ret ?_
      | refine J_label ?_
    exact retQ_ret _ [] (.cons (RV_tmp rfl) (.cons (RV_tmp rfl) .nil)) ⟨by rw [h1, h2]; rfl, rfl⟩ (Ent.re [1] rfl)
  · rw [e] at hf
    have la := right_long hr
    have h1 : loadT a b = a.drop 12 := by simp only [loadT, e]; rfl
    have h2 : loadN a b = nw a 1 := by simp only [loadN, e]; rfl
    have hn := nw_lt a 1
    have na := rnumber_ok E (a.drop 4) (by rw [List.length_drop]; omega)
    rw [show be ((a.drop 4).take 4) = nw a 1 from rfl] at na
    repeat first
      | refine J_seq ?_
      | refine seqQ_normal ?_
      | refine J_condT rfl ?_
      | refine J_condF rfl ?_
      | refine J_block ?_
      | refine blockQ_normal ?_
      | refine J_exit ?_
      | refine seqQ_exit ?_
      | refine blockQ_hit ?_
      | refine blockQ_miss rfl ?_
      | refine J_skip ?_
      | refine J_ret ?_
      | refine seqQ_ret ?_
      | refine blockQ_ret ?_
      | refine loopQ_exit ?_
      | refine loopQ_ret ?_
      | refine J_label ?_
    refine J_region ?_
    first
      | refine L_q (Q_ldA 0 rfl rfl rfl) rfl rfl rfl ?_
      | refine L_q (Q_ldA 1 rfl rfl rfl) rfl rfl rfl ?_
      | refine L_q (Q_ldA 2 rfl rfl rfl) rfl rfl rfl ?_
      | refine L_q (Q_ldA 3 rfl rfl rfl) rfl rfl rfl ?_
      | refine L_q (Q_ldA 4 rfl rfl rfl) rfl rfl rfl ?_
    refine L_o rfl rfl rfl (O_call [] [0,1] hf rfl rfl ?_)
    rintro _ _ ⟨rfl, rfl⟩
    refine JL.norm ?_
    refine L_q (Q_assign rfl) rfl rfl rfl ?_
    refine JL_nil ?_
    repeat first
      | refine J_seq ?_
      | refine seqQ_normal ?_
      | refine J_condT rfl ?_
      | refine J_condF rfl ?_
      | refine J_block ?_
      | refine blockQ_normal ?_
      | refine J_exit ?_
      | refine seqQ_exit ?_
      | refine blockQ_hit ?_
      | refine blockQ_miss rfl ?_
      | refine J_skip ?_
      | refine J_ret ?_
      | refine seqQ_ret ?_
      | refine blockQ_ret ?_
      | refine loopQ_exit ?_
      | refine loopQ_ret ?_
      | refine J_label ?_
    repeat first
      | refine J_seq ?_
      | refine seqQ_normal ?_
      | refine J_condT rfl ?_
      | refine J_condF rfl ?_
      | refine J_block ?_
      | refine blockQ_normal ?_
      | refine J_exit ?_
      | refine seqQ_exit ?_
      | refine blockQ_hit ?_
      | refine blockQ_miss rfl ?_
      | refine J_skip ?_
      | refine J_ret ?_
      | refine seqQ_ret ?_
      | refine blockQ_ret ?_
      | refine loopQ_exit ?_
      | refine loopQ_ret ?_
      | refine J_label ?_
    refine J_region ?_
    refine L_q (Q_move rfl) rfl rfl rfl ?_
    refine L_q (Q_lss rfl rfl) rfl rfl rfl ?_
    refine JL_nil ?_
    repeat first
      | refine J_seq ?_
      | refine seqQ_normal ?_
      | refine J_condT rfl ?_
      | refine J_condF rfl ?_
      | refine J_block ?_
      | refine blockQ_normal ?_
      | refine J_exit ?_
      | refine seqQ_exit ?_
      | refine blockQ_hit ?_
      | refine blockQ_miss rfl ?_
      | refine J_skip ?_
      | refine J_ret ?_
      | refine seqQ_ret ?_
      | refine blockQ_ret ?_
      | refine loopQ_exit ?_
      | refine loopQ_ret ?_
      | refine J_label ?_
    repeat first
      | refine J_seq ?_
      | refine seqQ_normal ?_
      | refine J_condT rfl ?_
      | refine J_condF rfl ?_
      | refine J_block ?_
      | refine blockQ_normal ?_
      | refine J_exit ?_
      | refine seqQ_exit ?_
      | refine blockQ_hit ?_
      | refine blockQ_miss rfl ?_
      | refine J_skip ?_
      | refine J_ret ?_
      | refine seqQ_ret ?_
      | refine blockQ_ret ?_
      | refine loopQ_exit ?_
      | refine loopQ_ret ?_
      | refine J_label ?_
    refine J_drawH [0] [0, 1, 2, 3, 4, 5, 6, 7, 8, 9, 11, 12, 13] (.quiet 0 (.quiet 1 (.quiet 2 (.quiet 3 (.quiet 4 (.quiet 5 (.quiet 6 (.quiet 7 (.quiet 8 (.quiet 9 (.loud 10 (.quiet 11 (.quiet 12 (.quiet 13 .done)))))))))))))) Try.mixed (by kernel_rfl) (by kernel_rfl) (by repeat (first | exact retQ_noP | refine seqQ_noP ?_ | refine blockQ_noP ?_ | refine loopQ_noP ?_)) ?_
    refine S_q (Ent.re [0] rfl) rfl (Q_move rfl) rfl rfl rfl ?_
    first
      | refine S_q (Ent.re [0] rfl) rfl (Q_fa0 rfl) rfl rfl rfl ?_
      | refine S_q (Ent.re [0] rfl) rfl (Q_fa rfl rfl) rfl rfl rfl ?_
      | refine S_q (Ent.re [0] rfl) rfl (Q_pfa rfl) rfl rfl rfl ?_
    refine S_q (Ent.re [0] rfl) rfl (Q_ia (o' := 0) 0 rfl rfl rfl (by decide) (by decide)) rfl rfl rfl ?_
    first
      | refine S_q (Ent.re [0] rfl) rfl (Q_ld 0 rfl rfl rfl rfl) rfl rfl rfl ?_
      | refine S_q (Ent.re [0] rfl) rfl (Q_ld 1 rfl rfl rfl rfl) rfl rfl rfl ?_
      | refine S_q (Ent.re [0] rfl) rfl (Q_ld 2 rfl rfl rfl rfl) rfl rfl rfl ?_
      | refine S_q (Ent.re [0] rfl) rfl (Q_ld 3 rfl rfl rfl rfl) rfl rfl rfl ?_
      | refine S_q (Ent.re [0] rfl) rfl (Q_ld 4 rfl rfl rfl rfl) rfl rfl rfl ?_
    refine S_q (Ent.re [0] rfl) rfl (Q_ssL 12 rfl rfl rfl la) rfl rfl rfl ?_
    refine S_q (Ent.re [0] rfl) rfl (Q_move rfl) rfl rfl rfl ?_
    first
      | refine S_q (Ent.re [0] rfl) rfl (Q_fa0 rfl) rfl rfl rfl ?_
      | refine S_q (Ent.re [0] rfl) rfl (Q_fa rfl rfl) rfl rfl rfl ?_
      | refine S_q (Ent.re [0] rfl) rfl (Q_pfa rfl) rfl rfl rfl ?_
    refine S_q (Ent.re [0] rfl) rfl (Q_ia (o' := 0) 0 rfl rfl rfl (by decide) (by decide)) rfl rfl rfl ?_
    first
      | refine S_q (Ent.re [0] rfl) rfl (Q_ld 0 rfl rfl rfl rfl) rfl rfl rfl ?_
      | refine S_q (Ent.re [0] rfl) rfl (Q_ld 1 rfl rfl rfl rfl) rfl rfl rfl ?_
      | refine S_q (Ent.re [0] rfl) rfl (Q_ld 2 rfl rfl rfl rfl) rfl rfl rfl ?_
      | refine S_q (Ent.re [0] rfl) rfl (Q_ld 3 rfl rfl rfl rfl) rfl rfl rfl ?_
      | refine S_q (Ent.re [0] rfl) rfl (Q_ld 4 rfl rfl rfl rfl) rfl rfl rfl ?_
    refine S_q (Ent.re [0] rfl) rfl (Q_ssL 4 rfl rfl rfl (by omega)) rfl rfl rfl ?_
    refine S_o rfl rfl rfl rfl (O_call [] [0,1] na rfl rfl ?_)
    (rintro _ _ ⟨rfl, rfl⟩; refine ⟨_, fun _ => ⟨Ent.reN [0] rfl, Ent.refl _⟩, ?_⟩)
    refine JS.norm ?_
    refine S_q (Ent.re [0] rfl) rfl (Q_cvt rfl (IntWalk.i64_in _ (by omega))) rfl rfl rfl ?_
    refine S_q (Ent.re [0] rfl) rfl (Q_assign rfl) rfl rfl rfl ?_
    refine S_q (Ent.re [0] rfl) rfl (Q_assign rfl) rfl rfl rfl ?_
    refine S_nil ?_
    repeat first
      | refine J_seq ?_
      | refine seqQ_normal ?_
      | refine J_condT rfl ?_
      | refine J_condF rfl ?_
      | refine J_block ?_
      | refine blockQ_normal ?_
      | refine J_exit ?_
      | refine seqQ_exit ?_
      | refine blockQ_hit ?_
      | refine blockQ_miss rfl ?_
      | refine J_skip ?_
      | refine J_ret ?_
      | refine seqQ_ret ?_
      | refine blockQ_ret ?_
      | refine loopQ_exit ?_
      | refine loopQ_ret ?_
      | refine J_label ?_
    exact retQ_ret _ [] (.cons (RV_tmp rfl) (.cons (RV_tmp rfl) .nil)) ⟨by rw [h1, h2]; rfl, rfl⟩ (Ent.re [1] rfl)
  · rw [e] at hf
    have h1 : loadT a b = [] := by simp only [loadT, e]; rfl
    have h2 : loadN a b = 0 := by simp only [loadN, e]; rfl
    repeat first
      | refine J_seq ?_
      | refine seqQ_normal ?_
      | refine J_condT rfl ?_
      | refine J_condF rfl ?_
      | refine J_block ?_
      | refine blockQ_normal ?_
      | refine J_exit ?_
      | refine seqQ_exit ?_
      | refine blockQ_hit ?_
      | refine blockQ_miss rfl ?_
      | refine J_skip ?_
      | refine J_ret ?_
      | refine seqQ_ret ?_
      | refine blockQ_ret ?_
      | refine loopQ_exit ?_
      | refine loopQ_ret ?_
      | refine J_label ?_
    refine J_region ?_
    first
      | refine L_q (Q_ldA 0 rfl rfl rfl) rfl rfl rfl ?_
      | refine L_q (Q_ldA 1 rfl rfl rfl) rfl rfl rfl ?_
      | refine L_q (Q_ldA 2 rfl rfl rfl) rfl rfl rfl ?_
      | refine L_q (Q_ldA 3 rfl rfl rfl) rfl rfl rfl ?_
      | refine L_q (Q_ldA 4 rfl rfl rfl) rfl rfl rfl ?_
    refine L_o rfl rfl rfl (O_call [] [0,1] hf rfl rfl ?_)
    rintro _ _ ⟨rfl, rfl⟩
    refine JL.norm ?_
    refine L_q (Q_assign rfl) rfl rfl rfl ?_
    refine JL_nil ?_
    repeat first
      | refine J_seq ?_
      | refine seqQ_normal ?_
      | refine J_condT rfl ?_
      | refine J_condF rfl ?_
      | refine J_block ?_
      | refine blockQ_normal ?_
      | refine J_exit ?_
      | refine seqQ_exit ?_
      | refine blockQ_hit ?_
      | refine blockQ_miss rfl ?_
      | refine J_skip ?_
      | refine J_ret ?_
      | refine seqQ_ret ?_
      | refine blockQ_ret ?_
      | refine loopQ_exit ?_
      | refine loopQ_ret ?_
      | refine J_label ?_
    repeat first
      | refine J_seq ?_
      | refine seqQ_normal ?_
      | refine J_condT rfl ?_
      | refine J_condF rfl ?_
      | refine J_block ?_
      | refine blockQ_normal ?_
      | refine J_exit ?_
      | refine seqQ_exit ?_
      | refine blockQ_hit ?_
      | refine blockQ_miss rfl ?_
      | refine J_skip ?_
      | refine J_ret ?_
      | refine seqQ_ret ?_
      | refine blockQ_ret ?_
      | refine loopQ_exit ?_
      | refine loopQ_ret ?_
      | refine J_label ?_
    refine J_region ?_
    refine L_q (Q_move rfl) rfl rfl rfl ?_
    refine L_q (Q_lss rfl rfl) rfl rfl rfl ?_
    refine JL_nil ?_
    repeat first
      | refine J_seq ?_
      | refine seqQ_normal ?_
      | refine J_condT rfl ?_
      | refine J_condF rfl ?_
      | refine J_block ?_
      | refine blockQ_normal ?_
      | refine J_exit ?_
      | refine seqQ_exit ?_
      | refine blockQ_hit ?_
      | refine blockQ_miss rfl ?_
      | refine J_skip ?_
      | refine J_ret ?_
      | refine seqQ_ret ?_
      | refine blockQ_ret ?_
      | refine loopQ_exit ?_
      | refine loopQ_ret ?_
      | refine J_label ?_
    repeat first
      | refine J_seq ?_
      | refine seqQ_normal ?_
      | refine J_condT rfl ?_
      | refine J_condF rfl ?_
      | refine J_block ?_
      | refine blockQ_normal ?_
      | refine J_exit ?_
      | refine seqQ_exit ?_
      | refine blockQ_hit ?_
      | refine blockQ_miss rfl ?_
      | refine J_skip ?_
      | refine J_ret ?_
      | refine seqQ_ret ?_
      | refine blockQ_ret ?_
      | refine loopQ_exit ?_
      | refine loopQ_ret ?_
      | refine J_label ?_
    refine J_region ?_
    refine L_q (Q_assign rfl) rfl rfl rfl ?_
    refine L_q (Q_assign rfl) rfl rfl rfl ?_
    refine JL_nil ?_
    repeat first
      | refine J_seq ?_
      | refine seqQ_normal ?_
      | refine J_condT rfl ?_
      | refine J_condF rfl ?_
      | refine J_block ?_
      | refine blockQ_normal ?_
      | refine J_exit ?_
      | refine seqQ_exit ?_
      | refine blockQ_hit ?_
      | refine blockQ_miss rfl ?_
      | refine J_skip ?_
      | refine J_ret ?_
      | refine seqQ_ret ?_
      | refine blockQ_ret ?_
      | refine loopQ_exit ?_
      | refine loopQ_ret ?_
      | refine J_label ?_
    exact retQ_ret _ [] (.cons (RV_tmp rfl) (.cons (RV_tmp rfl) .nil)) ⟨by rw [h1, h2]; rfl, rfl⟩ (Ent.re [1] rfl)
end Go.Proofs
