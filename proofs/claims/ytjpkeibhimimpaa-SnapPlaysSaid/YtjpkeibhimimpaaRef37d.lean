/- Which slot the document tells. -/
import Derived.Test.YtjpkeibhimimpaaRef37c
import Derived.Test.YtjpkeibhimimpaaSnap3
set_option autoImplicit false
namespace Go.Proofs
open Go.SL
attribute [local irreducible] J JL QOp JOp seqQ blockQ loopQ retQ slc cel hex star pur stars Does RV Ent pAt
theorem rfind_ok (E : World) (a b : List UInt8) (ha : a.length ≤ 100000) (hb : b.length ≤ 100000) : Does Try.prog E 32 [.agg #[str a, str b]] [] fun v L => v = .int .i64 (told a b) ∧ L = [] := by
  have hra := rright_ok E a ha
  have hrb := rright_ok E b hb
  refine Does.of Try.func32 rfl Try.ntmps32 rfl rfl fun F => ?_
  refine J.norm ?_
  repeat first
    | refine J_seq ?_
    | refine seqQ_normal ?_
    | refine J_condT rfl ?_
    | refine J_condF rfl ?_
    | refine J_block ?_
    | refine blockQ_normal ?_
    | refine J_exit ?_
    | refine seqQ_exit ?_
    | refine blockQ_hit ?_
    | refine blockQ_miss rfl ?_
    | refine J_skip ?_
    | refine J_ret ?_
    | refine seqQ_ret ?_
    | refine blockQ_ret ?_
    | refine loopQ_exit ?_
    | refine loopQ_ret ?_
    | refine J_label ?_
  refine J_region ?_
  refine L_o rfl rfl rfl (O_box rfl fun b1 => ?_)
  refine L_q (Q_assign rfl) rfl rfl rfl ?_
  refine JL_nil ?_
  repeat first
    | refine J_seq ?_
    | refine seqQ_normal ?_
    | refine J_condT rfl ?_
    | refine J_condF rfl ?_
    | refine J_block ?_
    | refine blockQ_normal ?_
    | refine J_exit ?_
    | refine seqQ_exit ?_
    | refine blockQ_hit ?_
    | refine blockQ_miss rfl ?_
    | refine J_skip ?_
    | refine J_ret ?_
    | refine seqQ_ret ?_
    | refine blockQ_ret ?_
    | refine loopQ_exit ?_
    | refine loopQ_ret ?_
    | refine J_label ?_
  cases ea : rightB a with
  | false =>
    rw [ea] at hra
    cases eb : rightB b with
    | false =>
      rw [eb] at hrb
      have et : told a b = -1 := by simp [told, ea, eb]
      rw [et]
      repeat first
        | refine J_seq ?_
        | refine seqQ_normal ?_
        | refine J_condT rfl ?_
        | refine J_condF rfl ?_
        | refine J_block ?_
        | refine blockQ_normal ?_
        | refine J_exit ?_
        | refine seqQ_exit ?_
        | refine blockQ_hit ?_
        | refine blockQ_miss rfl ?_
        | refine J_skip ?_
        | refine J_ret ?_
        | refine seqQ_ret ?_
        | refine blockQ_ret ?_
        | refine loopQ_exit ?_
        | refine loopQ_ret ?_
        | refine J_label ?_
      refine J_drawH [0] [0, 1, 2, 4, 5, 6, 8, 9] (.quiet 0 (.quiet 1 (.quiet 2 (.quiet 4 (.quiet 5 (.quiet 6 (.loud 3 (.loud 7 (.quiet 8 (.quiet 9 .done)))))))))) Try.mixed (by kernel_rfl) (by kernel_rfl) (by repeat (first | exact retQ_noP | refine seqQ_noP ?_ | refine blockQ_noP ?_ | refine loopQ_noP ?_)) ?_
      first
        | refine S_q (Ent.re [0] rfl) rfl (Q_fa0 rfl) rfl rfl rfl ?_
        | refine S_q (Ent.re [0] rfl) rfl (Q_fa rfl rfl) rfl rfl rfl ?_
        | refine S_q (Ent.re [0] rfl) rfl (Q_pfa rfl) rfl rfl rfl ?_
      refine S_q (Ent.re [0] rfl) rfl (Q_ia (o' := 0) 0 rfl rfl rfl (by decide) (by decide)) rfl rfl rfl ?_
      first
        | refine S_q (Ent.re [0] rfl) rfl (Q_ld 0 rfl rfl rfl rfl) rfl rfl rfl ?_
        | refine S_q (Ent.re [0] rfl) rfl (Q_ld 1 rfl rfl rfl rfl) rfl rfl rfl ?_
        | refine S_q (Ent.re [0] rfl) rfl (Q_ld 2 rfl rfl rfl rfl) rfl rfl rfl ?_
        | refine S_q (Ent.re [0] rfl) rfl (Q_ld 3 rfl rfl rfl rfl) rfl rfl rfl ?_
        | refine S_q (Ent.re [0] rfl) rfl (Q_ld 4 rfl rfl rfl rfl) rfl rfl rfl ?_
      first
        | refine S_q (Ent.re [0] rfl) rfl (Q_fa0 rfl) rfl rfl rfl ?_
        | refine S_q (Ent.re [0] rfl) rfl (Q_fa rfl rfl) rfl rfl rfl ?_
        | refine S_q (Ent.re [0] rfl) rfl (Q_pfa rfl) rfl rfl rfl ?_
      refine S_q (Ent.re [0] rfl) rfl (Q_ia (o' := 1) 1 rfl rfl rfl (by decide) (by decide)) rfl rfl rfl ?_
      first
        | refine S_q (Ent.re [0] rfl) rfl (Q_ld 0 rfl rfl rfl rfl) rfl rfl rfl ?_
        | refine S_q (Ent.re [0] rfl) rfl (Q_ld 1 rfl rfl rfl rfl) rfl rfl rfl ?_
        | refine S_q (Ent.re [0] rfl) rfl (Q_ld 2 rfl rfl rfl rfl) rfl rfl rfl ?_
        | refine S_q (Ent.re [0] rfl) rfl (Q_ld 3 rfl rfl rfl rfl) rfl rfl rfl ?_
        | refine S_q (Ent.re [0] rfl) rfl (Q_ld 4 rfl rfl rfl rfl) rfl rfl rfl ?_
      refine S_o rfl rfl rfl rfl (O_call [] [0,1] hra rfl rfl ?_)
      (rintro _ _ ⟨rfl, rfl⟩; refine ⟨_, fun _ => ⟨Ent.reN [0] rfl, Ent.refl _⟩, ?_⟩)
      refine JS.norm ?_
      refine S_o rfl rfl rfl rfl (O_call [] [0,1] hrb rfl rfl ?_)
      (rintro _ _ ⟨rfl, rfl⟩; refine ⟨_, fun _ => ⟨Ent.reN [0] rfl, Ent.refl _⟩, ?_⟩)
      refine JS.norm ?_
      refine S_q (Ent.re [0] rfl) rfl (Q_assign rfl) rfl rfl rfl ?_
      refine S_q (Ent.re [0] rfl) rfl (Q_assign rfl) rfl rfl rfl ?_
      refine S_nil ?_
      repeat first
        | refine J_seq ?_
        | refine seqQ_normal ?_
        | refine J_condT rfl ?_
        | refine J_condF rfl ?_
        | refine J_block ?_
        | refine blockQ_normal ?_
        | refine J_exit ?_
        | refine seqQ_exit ?_
        | refine blockQ_hit ?_
        | refine blockQ_miss rfl ?_
        | refine J_skip ?_
        | refine J_ret ?_
        | refine seqQ_ret ?_
        | refine blockQ_ret ?_
        | refine loopQ_exit ?_
        | refine loopQ_ret ?_
        | refine J_label ?_
      repeat first
        | refine J_seq ?_
        | refine seqQ_normal ?_
        | refine J_condT rfl ?_
        | refine J_condF rfl ?_
        | refine J_block ?_
        | refine blockQ_normal ?_
        | refine J_exit ?_
        | refine seqQ_exit ?_
        | refine blockQ_hit ?_
        | refine blockQ_miss rfl ?_
        | refine J_skip ?_
        | refine J_ret ?_
        | refine seqQ_ret ?_
        | refine blockQ_ret ?_
        | refine loopQ_exit ?_
        | refine loopQ_ret ?_
        | refine J_label ?_
      refine J_drawH [0] [0, 1, 2, 3, 4, 5, 6, 7, 8, 10, 11, 12, 13, 15, 16, 17] (.quiet 0 (.quiet 1 (.quiet 2 (.quiet 3 (.quiet 4 (.quiet 5 (.quiet 6 (.quiet 7 (.quiet 8 (.quiet 10 (.quiet 11 (.quiet 12 (.quiet 13 (.loud 9 (.loud 14 (.quiet 15 (.quiet 16 (.quiet 17 .done)))))))))))))))))) Try.mixed (by kernel_rfl) (by kernel_rfl) (by repeat (first | exact retQ_noP | refine seqQ_noP ?_ | refine blockQ_noP ?_ | refine loopQ_noP ?_)) ?_
      refine S_q (Ent.re [0] rfl) rfl (Q_move rfl) rfl rfl rfl ?_
      refine S_q (Ent.re [0] rfl) rfl (Q_move rfl) rfl rfl rfl ?_
      refine S_n (Ent.re [0] rfl) rfl rfl rfl rfl ?_
      first
        | refine S_q (Ent.re [0] rfl) rfl (Q_pickT rfl rfl) rfl rfl rfl ?_
        | refine S_q (Ent.re [0] rfl) rfl (Q_pickF rfl rfl) rfl rfl rfl ?_
        | refine S_q (Ent.re [0] rfl) rfl (Q_pickB rfl rfl rfl) rfl rfl rfl ?_
      refine S_q (Ent.re [0] rfl) rfl (Q_move rfl) rfl rfl rfl ?_
      refine S_n (Ent.re [0] rfl) rfl rfl rfl rfl ?_
      refine S_n (Ent.re [0] rfl) rfl rfl rfl rfl ?_
      refine S_n (Ent.re [0] rfl) rfl rfl rfl rfl ?_
      refine S_n (Ent.re [0] rfl) rfl rfl rfl rfl ?_
      refine S_n (Ent.re [0] rfl) rfl rfl rfl rfl ?_
      refine S_n (Ent.re [0] rfl) rfl rfl rfl rfl ?_
      refine S_n (Ent.re [0] rfl) rfl rfl rfl rfl ?_
      refine S_n (Ent.re [0] rfl) rfl rfl rfl rfl ?_
      refine S_no rfl rfl rfl rfl (fun _ => (Ent.re [0] rfl)) ?_
      refine S_no rfl rfl rfl rfl (fun _ => (Ent.re [0] rfl)) ?_
      refine S_n (Ent.re [0] rfl) rfl rfl rfl rfl ?_
      first
        | refine S_q (Ent.re [0] rfl) rfl (Q_pickT rfl rfl) rfl rfl rfl ?_
        | refine S_q (Ent.re [0] rfl) rfl (Q_pickF rfl rfl) rfl rfl rfl ?_
        | refine S_q (Ent.re [0] rfl) rfl (Q_pickB rfl rfl rfl) rfl rfl rfl ?_
      refine S_q (Ent.re [0] rfl) rfl (Q_assign rfl) rfl rfl rfl ?_
      refine S_nil ?_
      repeat first
        | refine J_seq ?_
        | refine seqQ_normal ?_
        | refine J_condT rfl ?_
        | refine J_condF rfl ?_
        | refine J_block ?_
        | refine blockQ_normal ?_
        | refine J_exit ?_
        | refine seqQ_exit ?_
        | refine blockQ_hit ?_
        | refine blockQ_miss rfl ?_
        | refine J_skip ?_
        | refine J_ret ?_
        | refine seqQ_ret ?_
        | refine blockQ_ret ?_
        | refine loopQ_exit ?_
        | refine loopQ_ret ?_
        | refine J_label ?_
      repeat first
        | refine J_seq ?_
        | refine seqQ_normal ?_
        | refine J_condT rfl ?_
        | refine J_condF rfl ?_
        | refine J_block ?_
        | refine blockQ_normal ?_
        | refine J_exit ?_
        | refine seqQ_exit ?_
        | refine blockQ_hit ?_
        | refine blockQ_miss rfl ?_
        | refine J_skip ?_
        | refine J_ret ?_
        | refine seqQ_ret ?_
        | refine blockQ_ret ?_
        | refine loopQ_exit ?_
        | refine loopQ_ret ?_
        | refine J_label ?_
      refine J_region ?_
      refine L_q (Q_move rfl) rfl rfl rfl ?_
      refine L_q (Q_assign rfl) rfl rfl rfl ?_
      refine JL_nil ?_
      repeat first
        | refine J_seq ?_
        | refine seqQ_normal ?_
        | refine J_condT rfl ?_
        | refine J_condF rfl ?_
        | refine J_block ?_
        | refine blockQ_normal ?_
        | refine J_exit ?_
        | refine seqQ_exit ?_
        | refine blockQ_hit ?_
        | refine blockQ_miss rfl ?_
        | refine J_skip ?_
        | refine J_ret ?_
        | refine seqQ_ret ?_
        | refine blockQ_ret ?_
        | refine loopQ_exit ?_
        | refine loopQ_ret ?_
        | refine J_label ?_
      repeat first
        | refine J_seq ?_
        | refine seqQ_normal ?_
        | refine J_condT rfl ?_
        | refine J_condF rfl ?_
        | refine J_block ?_
        | refine blockQ_normal ?_
        | refine J_exit ?_
        | refine seqQ_exit ?_
        | refine blockQ_hit ?_
        | refine blockQ_miss rfl ?_
        | refine J_skip ?_
        | refine J_ret ?_
        | refine seqQ_ret ?_
        | refine blockQ_ret ?_
        | refine loopQ_exit ?_
        | refine loopQ_ret ?_
        | refine J_label ?_
      refine J_region ?_
      refine L_q (Q_move rfl) rfl rfl rfl ?_
      refine L_q (Q_assign rfl) rfl rfl rfl ?_
      refine JL_nil ?_
      repeat first
        | refine J_seq ?_
        | refine seqQ_normal ?_
        | refine J_condT rfl ?_
        | refine J_condF rfl ?_
        | refine J_block ?_
        | refine blockQ_normal ?_
        | refine J_exit ?_
        | refine seqQ_exit ?_
        | refine blockQ_hit ?_
        | refine blockQ_miss rfl ?_
        | refine J_skip ?_
        | refine J_ret ?_
        | refine seqQ_ret ?_
        | refine blockQ_ret ?_
        | refine loopQ_exit ?_
        | refine loopQ_ret ?_
        | refine J_label ?_
      repeat first
        | refine J_seq ?_
        | refine seqQ_normal ?_
        | refine J_condT rfl ?_
        | refine J_condF rfl ?_
        | refine J_block ?_
        | refine blockQ_normal ?_
        | refine J_exit ?_
        | refine seqQ_exit ?_
        | refine blockQ_hit ?_
        | refine blockQ_miss rfl ?_
        | refine J_skip ?_
        | refine J_ret ?_
        | refine seqQ_ret ?_
        | refine blockQ_ret ?_
        | refine loopQ_exit ?_
        | refine loopQ_ret ?_
        | refine J_label ?_
      refine J_region ?_
      refine L_q (Q_assign rfl) rfl rfl rfl ?_
      refine JL_nil ?_
      repeat first
        | refine J_seq ?_
        | refine seqQ_normal ?_
        | refine J_condT rfl ?_
        | refine J_condF rfl ?_
        | refine J_block ?_
        | refine blockQ_normal ?_
        | refine J_exit ?_
        | refine seqQ_exit ?_
        | refine blockQ_hit ?_
        | refine blockQ_miss rfl ?_
        | refine J_skip ?_
        | refine J_ret ?_
        | refine seqQ_ret ?_
        | refine blockQ_ret ?_
        | refine loopQ_exit ?_
        | refine loopQ_ret ?_
        | refine J_label ?_
      exact retQ_ret _ [] (.cons (RV_tmp rfl) .nil) ⟨rfl, rfl⟩ (Ent.re [1] rfl)
    | true =>
      rw [eb] at hrb
      have et : told a b = 1 := by simp [told, ea, eb]
      rw [et]
      repeat first
        | refine J_seq ?_
        | refine seqQ_normal ?_
        | refine J_condT rfl ?_
        | refine J_condF rfl ?_
        | refine J_block ?_
        | refine blockQ_normal ?_
        | refine J_exit ?_
        | refine seqQ_exit ?_
        | refine blockQ_hit ?_
        | refine blockQ_miss rfl ?_
        | refine J_skip ?_
        | refine J_ret ?_
        | refine seqQ_ret ?_
        | refine blockQ_ret ?_
        | refine loopQ_exit ?_
        | refine loopQ_ret ?_
        | refine J_label ?_
      refine J_drawH [0] [0, 1, 2, 4, 5, 6, 8, 9] (.quiet 0 (.quiet 1 (.quiet 2 (.quiet 4 (.quiet 5 (.quiet 6 (.loud 3 (.loud 7 (.quiet 8 (.quiet 9 .done)))))))))) Try.mixed (by kernel_rfl) (by kernel_rfl) (by repeat (first | exact retQ_noP | refine seqQ_noP ?_ | refine blockQ_noP ?_ | refine loopQ_noP ?_)) ?_
      first
        | refine S_q (Ent.re [0] rfl) rfl (Q_fa0 rfl) rfl rfl rfl ?_
        | refine S_q (Ent.re [0] rfl) rfl (Q_fa rfl rfl) rfl rfl rfl ?_
        | refine S_q (Ent.re [0] rfl) rfl (Q_pfa rfl) rfl rfl rfl ?_
      refine S_q (Ent.re [0] rfl) rfl (Q_ia (o' := 0) 0 rfl rfl rfl (by decide) (by decide)) rfl rfl rfl ?_
      first
        | refine S_q (Ent.re [0] rfl) rfl (Q_ld 0 rfl rfl rfl rfl) rfl rfl rfl ?_
        | refine S_q (Ent.re [0] rfl) rfl (Q_ld 1 rfl rfl rfl rfl) rfl rfl rfl ?_
        | refine S_q (Ent.re [0] rfl) rfl (Q_ld 2 rfl rfl rfl rfl) rfl rfl rfl ?_
        | refine S_q (Ent.re [0] rfl) rfl (Q_ld 3 rfl rfl rfl rfl) rfl rfl rfl ?_
        | refine S_q (Ent.re [0] rfl) rfl (Q_ld 4 rfl rfl rfl rfl) rfl rfl rfl ?_
      first
        | refine S_q (Ent.re [0] rfl) rfl (Q_fa0 rfl) rfl rfl rfl ?_
        | refine S_q (Ent.re [0] rfl) rfl (Q_fa rfl rfl) rfl rfl rfl ?_
        | refine S_q (Ent.re [0] rfl) rfl (Q_pfa rfl) rfl rfl rfl ?_
      refine S_q (Ent.re [0] rfl) rfl (Q_ia (o' := 1) 1 rfl rfl rfl (by decide) (by decide)) rfl rfl rfl ?_
      first
        | refine S_q (Ent.re [0] rfl) rfl (Q_ld 0 rfl rfl rfl rfl) rfl rfl rfl ?_
        | refine S_q (Ent.re [0] rfl) rfl (Q_ld 1 rfl rfl rfl rfl) rfl rfl rfl ?_
        | refine S_q (Ent.re [0] rfl) rfl (Q_ld 2 rfl rfl rfl rfl) rfl rfl rfl ?_
        | refine S_q (Ent.re [0] rfl) rfl (Q_ld 3 rfl rfl rfl rfl) rfl rfl rfl ?_
        | refine S_q (Ent.re [0] rfl) rfl (Q_ld 4 rfl rfl rfl rfl) rfl rfl rfl ?_
      refine S_o rfl rfl rfl rfl (O_call [] [0,1] hra rfl rfl ?_)
      (rintro _ _ ⟨rfl, rfl⟩; refine ⟨_, fun _ => ⟨Ent.reN [0] rfl, Ent.refl _⟩, ?_⟩)
      refine JS.norm ?_
      refine S_o rfl rfl rfl rfl (O_call [] [0,1] hrb rfl rfl ?_)
      (rintro _ _ ⟨rfl, rfl⟩; refine ⟨_, fun _ => ⟨Ent.reN [0] rfl, Ent.refl _⟩, ?_⟩)
      refine JS.norm ?_
      refine S_q (Ent.re [0] rfl) rfl (Q_assign rfl) rfl rfl rfl ?_
      refine S_q (Ent.re [0] rfl) rfl (Q_assign rfl) rfl rfl rfl ?_
      refine S_nil ?_
      repeat first
        | refine J_seq ?_
        | refine seqQ_normal ?_
        | refine J_condT rfl ?_
        | refine J_condF rfl ?_
        | refine J_block ?_
        | refine blockQ_normal ?_
        | refine J_exit ?_
        | refine seqQ_exit ?_
        | refine blockQ_hit ?_
        | refine blockQ_miss rfl ?_
        | refine J_skip ?_
        | refine J_ret ?_
        | refine seqQ_ret ?_
        | refine blockQ_ret ?_
        | refine loopQ_exit ?_
        | refine loopQ_ret ?_
        | refine J_label ?_
      repeat first
        | refine J_seq ?_
        | refine seqQ_normal ?_
        | refine J_condT rfl ?_
        | refine J_condF rfl ?_
        | refine J_block ?_
        | refine blockQ_normal ?_
        | refine J_exit ?_
        | refine seqQ_exit ?_
        | refine blockQ_hit ?_
        | refine blockQ_miss rfl ?_
        | refine J_skip ?_
        | refine J_ret ?_
        | refine seqQ_ret ?_
        | refine blockQ_ret ?_
        | refine loopQ_exit ?_
        | refine loopQ_ret ?_
        | refine J_label ?_
      refine J_drawH [0] [0, 1, 2, 3, 4, 5, 6, 7, 8, 10, 11, 12, 13, 15, 16, 17] (.quiet 0 (.quiet 1 (.quiet 2 (.quiet 3 (.quiet 4 (.quiet 5 (.quiet 6 (.quiet 7 (.quiet 8 (.quiet 10 (.quiet 11 (.quiet 12 (.quiet 13 (.loud 9 (.loud 14 (.quiet 15 (.quiet 16 (.quiet 17 .done)))))))))))))))))) Try.mixed (by kernel_rfl) (by kernel_rfl) (by repeat (first | exact retQ_noP | refine seqQ_noP ?_ | refine blockQ_noP ?_ | refine loopQ_noP ?_)) ?_
      refine S_q (Ent.re [0] rfl) rfl (Q_move rfl) rfl rfl rfl ?_
      refine S_q (Ent.re [0] rfl) rfl (Q_move rfl) rfl rfl rfl ?_
      refine S_n (Ent.re [0] rfl) rfl rfl rfl rfl ?_
      first
        | refine S_q (Ent.re [0] rfl) rfl (Q_pickT rfl rfl) rfl rfl rfl ?_
        | refine S_q (Ent.re [0] rfl) rfl (Q_pickF rfl rfl) rfl rfl rfl ?_
        | refine S_q (Ent.re [0] rfl) rfl (Q_pickB rfl rfl rfl) rfl rfl rfl ?_
      refine S_q (Ent.re [0] rfl) rfl (Q_move rfl) rfl rfl rfl ?_
      refine S_n (Ent.re [0] rfl) rfl rfl rfl rfl ?_
      refine S_n (Ent.re [0] rfl) rfl rfl rfl rfl ?_
      refine S_n (Ent.re [0] rfl) rfl rfl rfl rfl ?_
      refine S_n (Ent.re [0] rfl) rfl rfl rfl rfl ?_
      refine S_n (Ent.re [0] rfl) rfl rfl rfl rfl ?_
      refine S_n (Ent.re [0] rfl) rfl rfl rfl rfl ?_
      refine S_n (Ent.re [0] rfl) rfl rfl rfl rfl ?_
      refine S_n (Ent.re [0] rfl) rfl rfl rfl rfl ?_
      refine S_no rfl rfl rfl rfl (fun _ => (Ent.re [0] rfl)) ?_
      refine S_no rfl rfl rfl rfl (fun _ => (Ent.re [0] rfl)) ?_
      refine S_n (Ent.re [0] rfl) rfl rfl rfl rfl ?_
      first
        | refine S_q (Ent.re [0] rfl) rfl (Q_pickT rfl rfl) rfl rfl rfl ?_
        | refine S_q (Ent.re [0] rfl) rfl (Q_pickF rfl rfl) rfl rfl rfl ?_
        | refine S_q (Ent.re [0] rfl) rfl (Q_pickB rfl rfl rfl) rfl rfl rfl ?_
      refine S_q (Ent.re [0] rfl) rfl (Q_assign rfl) rfl rfl rfl ?_
      refine S_nil ?_
      repeat first
        | refine J_seq ?_
        | refine seqQ_normal ?_
        | refine J_condT rfl ?_
        | refine J_condF rfl ?_
        | refine J_block ?_
        | refine blockQ_normal ?_
        | refine J_exit ?_
        | refine seqQ_exit ?_
        | refine blockQ_hit ?_
        | refine blockQ_miss rfl ?_
        | refine J_skip ?_
        | refine J_ret ?_
        | refine seqQ_ret ?_
        | refine blockQ_ret ?_
        | refine loopQ_exit ?_
        | refine loopQ_ret ?_
        | refine J_label ?_
      repeat first
        | refine J_seq ?_
        | refine seqQ_normal ?_
        | refine J_condT rfl ?_
        | refine J_condF rfl ?_
        | refine J_block ?_
        | refine blockQ_normal ?_
        | refine J_exit ?_
        | refine seqQ_exit ?_
        | refine blockQ_hit ?_
        | refine blockQ_miss rfl ?_
        | refine J_skip ?_
        | refine J_ret ?_
        | refine seqQ_ret ?_
        | refine blockQ_ret ?_
        | refine loopQ_exit ?_
        | refine loopQ_ret ?_
        | refine J_label ?_
      refine J_region ?_
      refine L_q (Q_move rfl) rfl rfl rfl ?_
      refine L_q (Q_assign rfl) rfl rfl rfl ?_
      refine JL_nil ?_
      repeat first
        | refine J_seq ?_
        | refine seqQ_normal ?_
        | refine J_condT rfl ?_
        | refine J_condF rfl ?_
        | refine J_block ?_
        | refine blockQ_normal ?_
        | refine J_exit ?_
        | refine seqQ_exit ?_
        | refine blockQ_hit ?_
        | refine blockQ_miss rfl ?_
        | refine J_skip ?_
        | refine J_ret ?_
        | refine seqQ_ret ?_
        | refine blockQ_ret ?_
        | refine loopQ_exit ?_
        | refine loopQ_ret ?_
        | refine J_label ?_
      repeat first
        | refine J_seq ?_
        | refine seqQ_normal ?_
        | refine J_condT rfl ?_
        | refine J_condF rfl ?_
        | refine J_block ?_
        | refine blockQ_normal ?_
        | refine J_exit ?_
        | refine seqQ_exit ?_
        | refine blockQ_hit ?_
        | refine blockQ_miss rfl ?_
        | refine J_skip ?_
        | refine J_ret ?_
        | refine seqQ_ret ?_
        | refine blockQ_ret ?_
        | refine loopQ_exit ?_
        | refine loopQ_ret ?_
        | refine J_label ?_
      refine J_region ?_
      refine L_q (Q_move rfl) rfl rfl rfl ?_
      refine L_q (Q_assign rfl) rfl rfl rfl ?_
      refine JL_nil ?_
      repeat first
        | refine J_seq ?_
        | refine seqQ_normal ?_
        | refine J_condT rfl ?_
        | refine J_condF rfl ?_
        | refine J_block ?_
        | refine blockQ_normal ?_
        | refine J_exit ?_
        | refine seqQ_exit ?_
        | refine blockQ_hit ?_
        | refine blockQ_miss rfl ?_
        | refine J_skip ?_
        | refine J_ret ?_
        | refine seqQ_ret ?_
        | refine blockQ_ret ?_
        | refine loopQ_exit ?_
        | refine loopQ_ret ?_
        | refine J_label ?_
      repeat first
        | refine J_seq ?_
        | refine seqQ_normal ?_
        | refine J_condT rfl ?_
        | refine J_condF rfl ?_
        | refine J_block ?_
        | refine blockQ_normal ?_
        | refine J_exit ?_
        | refine seqQ_exit ?_
        | refine blockQ_hit ?_
        | refine blockQ_miss rfl ?_
        | refine J_skip ?_
        | refine J_ret ?_
        | refine seqQ_ret ?_
        | refine blockQ_ret ?_
        | refine loopQ_exit ?_
        | refine loopQ_ret ?_
        | refine J_label ?_
      refine J_region ?_
      refine L_q (Q_assign rfl) rfl rfl rfl ?_
      refine JL_nil ?_
      repeat first
        | refine J_seq ?_
        | refine seqQ_normal ?_
        | refine J_condT rfl ?_
        | refine J_condF rfl ?_
        | refine J_block ?_
        | refine blockQ_normal ?_
        | refine J_exit ?_
        | refine seqQ_exit ?_
        | refine blockQ_hit ?_
        | refine blockQ_miss rfl ?_
        | refine J_skip ?_
        | refine J_ret ?_
        | refine seqQ_ret ?_
        | refine blockQ_ret ?_
        | refine loopQ_exit ?_
        | refine loopQ_ret ?_
        | refine J_label ?_
      exact retQ_ret _ [] (.cons (RV_tmp rfl) .nil) ⟨rfl, rfl⟩ (Ent.re [1] rfl)
  | true =>
    rw [ea] at hra
    have la := right_long ea
    cases eb : rightB b with
    | false =>
      rw [eb] at hrb
      have et : told a b = 0 := by simp [told, ea, eb]
      rw [et]
      repeat first
        | refine J_seq ?_
        | refine seqQ_normal ?_
        | refine J_condT rfl ?_
        | refine J_condF rfl ?_
        | refine J_block ?_
        | refine blockQ_normal ?_
        | refine J_exit ?_
        | refine seqQ_exit ?_
        | refine blockQ_hit ?_
        | refine blockQ_miss rfl ?_
        | refine J_skip ?_
        | refine J_ret ?_
        | refine seqQ_ret ?_
        | refine blockQ_ret ?_
        | refine loopQ_exit ?_
        | refine loopQ_ret ?_
        | refine J_label ?_
      refine J_drawH [0] [0, 1, 2, 4, 5, 6, 8, 9] (.quiet 0 (.quiet 1 (.quiet 2 (.quiet 4 (.quiet 5 (.quiet 6 (.loud 3 (.loud 7 (.quiet 8 (.quiet 9 .done)))))))))) Try.mixed (by kernel_rfl) (by kernel_rfl) (by repeat (first | exact retQ_noP | refine seqQ_noP ?_ | refine blockQ_noP ?_ | refine loopQ_noP ?_)) ?_
      first
        | refine S_q (Ent.re [0] rfl) rfl (Q_fa0 rfl) rfl rfl rfl ?_
        | refine S_q (Ent.re [0] rfl) rfl (Q_fa rfl rfl) rfl rfl rfl ?_
        | refine S_q (Ent.re [0] rfl) rfl (Q_pfa rfl) rfl rfl rfl ?_
      refine S_q (Ent.re [0] rfl) rfl (Q_ia (o' := 0) 0 rfl rfl rfl (by decide) (by decide)) rfl rfl rfl ?_
      first
        | refine S_q (Ent.re [0] rfl) rfl (Q_ld 0 rfl rfl rfl rfl) rfl rfl rfl ?_
        | refine S_q (Ent.re [0] rfl) rfl (Q_ld 1 rfl rfl rfl rfl) rfl rfl rfl ?_
        | refine S_q (Ent.re [0] rfl) rfl (Q_ld 2 rfl rfl rfl rfl) rfl rfl rfl ?_
        | refine S_q (Ent.re [0] rfl) rfl (Q_ld 3 rfl rfl rfl rfl) rfl rfl rfl ?_
        | refine S_q (Ent.re [0] rfl) rfl (Q_ld 4 rfl rfl rfl rfl) rfl rfl rfl ?_
      first
        | refine S_q (Ent.re [0] rfl) rfl (Q_fa0 rfl) rfl rfl rfl ?_
        | refine S_q (Ent.re [0] rfl) rfl (Q_fa rfl rfl) rfl rfl rfl ?_
        | refine S_q (Ent.re [0] rfl) rfl (Q_pfa rfl) rfl rfl rfl ?_
      refine S_q (Ent.re [0] rfl) rfl (Q_ia (o' := 1) 1 rfl rfl rfl (by decide) (by decide)) rfl rfl rfl ?_
      first
        | refine S_q (Ent.re [0] rfl) rfl (Q_ld 0 rfl rfl rfl rfl) rfl rfl rfl ?_
        | refine S_q (Ent.re [0] rfl) rfl (Q_ld 1 rfl rfl rfl rfl) rfl rfl rfl ?_
        | refine S_q (Ent.re [0] rfl) rfl (Q_ld 2 rfl rfl rfl rfl) rfl rfl rfl ?_
        | refine S_q (Ent.re [0] rfl) rfl (Q_ld 3 rfl rfl rfl rfl) rfl rfl rfl ?_
        | refine S_q (Ent.re [0] rfl) rfl (Q_ld 4 rfl rfl rfl rfl) rfl rfl rfl ?_
      refine S_o rfl rfl rfl rfl (O_call [] [0,1] hra rfl rfl ?_)
      (rintro _ _ ⟨rfl, rfl⟩; refine ⟨_, fun _ => ⟨Ent.reN [0] rfl, Ent.refl _⟩, ?_⟩)
      refine JS.norm ?_
      refine S_o rfl rfl rfl rfl (O_call [] [0,1] hrb rfl rfl ?_)
      (rintro _ _ ⟨rfl, rfl⟩; refine ⟨_, fun _ => ⟨Ent.reN [0] rfl, Ent.refl _⟩, ?_⟩)
      refine JS.norm ?_
      refine S_q (Ent.re [0] rfl) rfl (Q_assign rfl) rfl rfl rfl ?_
      refine S_q (Ent.re [0] rfl) rfl (Q_assign rfl) rfl rfl rfl ?_
      refine S_nil ?_
      repeat first
        | refine J_seq ?_
        | refine seqQ_normal ?_
        | refine J_condT rfl ?_
        | refine J_condF rfl ?_
        | refine J_block ?_
        | refine blockQ_normal ?_
        | refine J_exit ?_
        | refine seqQ_exit ?_
        | refine blockQ_hit ?_
        | refine blockQ_miss rfl ?_
        | refine J_skip ?_
        | refine J_ret ?_
        | refine seqQ_ret ?_
        | refine blockQ_ret ?_
        | refine loopQ_exit ?_
        | refine loopQ_ret ?_
        | refine J_label ?_
      repeat first
        | refine J_seq ?_
        | refine seqQ_normal ?_
        | refine J_condT rfl ?_
        | refine J_condF rfl ?_
        | refine J_block ?_
        | refine blockQ_normal ?_
        | refine J_exit ?_
        | refine seqQ_exit ?_
        | refine blockQ_hit ?_
        | refine blockQ_miss rfl ?_
        | refine J_skip ?_
        | refine J_ret ?_
        | refine seqQ_ret ?_
        | refine blockQ_ret ?_
        | refine loopQ_exit ?_
        | refine loopQ_ret ?_
        | refine J_label ?_
      refine J_drawH [0] [0, 1, 2, 3, 4, 5, 6, 7, 8, 10, 11, 12, 13, 15, 16, 17] (.quiet 0 (.quiet 1 (.quiet 2 (.quiet 3 (.quiet 4 (.quiet 5 (.quiet 6 (.quiet 7 (.quiet 8 (.quiet 10 (.quiet 11 (.quiet 12 (.quiet 13 (.loud 9 (.loud 14 (.quiet 15 (.quiet 16 (.quiet 17 .done)))))))))))))))))) Try.mixed (by kernel_rfl) (by kernel_rfl) (by repeat (first | exact retQ_noP | refine seqQ_noP ?_ | refine blockQ_noP ?_ | refine loopQ_noP ?_)) ?_
      refine S_q (Ent.re [0] rfl) rfl (Q_move rfl) rfl rfl rfl ?_
      refine S_q (Ent.re [0] rfl) rfl (Q_move rfl) rfl rfl rfl ?_
      refine S_q (Ent.re [0] rfl) rfl (Q_move rfl) rfl rfl rfl ?_
      first
        | refine S_q (Ent.re [0] rfl) rfl (Q_pickT rfl rfl) rfl rfl rfl ?_
        | refine S_q (Ent.re [0] rfl) rfl (Q_pickF rfl rfl) rfl rfl rfl ?_
        | refine S_q (Ent.re [0] rfl) rfl (Q_pickB rfl rfl rfl) rfl rfl rfl ?_
      refine S_q (Ent.re [0] rfl) rfl (Q_move rfl) rfl rfl rfl ?_
      refine S_n (Ent.re [0] rfl) rfl rfl rfl rfl ?_
      refine S_n (Ent.re [0] rfl) rfl rfl rfl rfl ?_
      refine S_n (Ent.re [0] rfl) rfl rfl rfl rfl ?_
      refine S_n (Ent.re [0] rfl) rfl rfl rfl rfl ?_
      refine S_n (Ent.re [0] rfl) rfl rfl rfl rfl ?_
      refine S_n (Ent.re [0] rfl) rfl rfl rfl rfl ?_
      refine S_n (Ent.re [0] rfl) rfl rfl rfl rfl ?_
      refine S_n (Ent.re [0] rfl) rfl rfl rfl rfl ?_
      refine S_no rfl rfl rfl rfl (fun _ => (Ent.re [0] rfl)) ?_
      refine S_no rfl rfl rfl rfl (fun _ => (Ent.re [0] rfl)) ?_
      refine S_n (Ent.re [0] rfl) rfl rfl rfl rfl ?_
      first
        | refine S_q (Ent.re [0] rfl) rfl (Q_pickT rfl rfl) rfl rfl rfl ?_
        | refine S_q (Ent.re [0] rfl) rfl (Q_pickF rfl rfl) rfl rfl rfl ?_
        | refine S_q (Ent.re [0] rfl) rfl (Q_pickB rfl rfl rfl) rfl rfl rfl ?_
      refine S_q (Ent.re [0] rfl) rfl (Q_assign rfl) rfl rfl rfl ?_
      refine S_nil ?_
      repeat first
        | refine J_seq ?_
        | refine seqQ_normal ?_
        | refine J_condT rfl ?_
        | refine J_condF rfl ?_
        | refine J_block ?_
        | refine blockQ_normal ?_
        | refine J_exit ?_
        | refine seqQ_exit ?_
        | refine blockQ_hit ?_
        | refine blockQ_miss rfl ?_
        | refine J_skip ?_
        | refine J_ret ?_
        | refine seqQ_ret ?_
        | refine blockQ_ret ?_
        | refine loopQ_exit ?_
        | refine loopQ_ret ?_
        | refine J_label ?_
      repeat first
        | refine J_seq ?_
        | refine seqQ_normal ?_
        | refine J_condT rfl ?_
        | refine J_condF rfl ?_
        | refine J_block ?_
        | refine blockQ_normal ?_
        | refine J_exit ?_
        | refine seqQ_exit ?_
        | refine blockQ_hit ?_
        | refine blockQ_miss rfl ?_
        | refine J_skip ?_
        | refine J_ret ?_
        | refine seqQ_ret ?_
        | refine blockQ_ret ?_
        | refine loopQ_exit ?_
        | refine loopQ_ret ?_
        | refine J_label ?_
      refine J_region ?_
      refine L_q (Q_move rfl) rfl rfl rfl ?_
      refine L_q (Q_assign rfl) rfl rfl rfl ?_
      refine JL_nil ?_
      repeat first
        | refine J_seq ?_
        | refine seqQ_normal ?_
        | refine J_condT rfl ?_
        | refine J_condF rfl ?_
        | refine J_block ?_
        | refine blockQ_normal ?_
        | refine J_exit ?_
        | refine seqQ_exit ?_
        | refine blockQ_hit ?_
        | refine blockQ_miss rfl ?_
        | refine J_skip ?_
        | refine J_ret ?_
        | refine seqQ_ret ?_
        | refine blockQ_ret ?_
        | refine loopQ_exit ?_
        | refine loopQ_ret ?_
        | refine J_label ?_
      repeat first
        | refine J_seq ?_
        | refine seqQ_normal ?_
        | refine J_condT rfl ?_
        | refine J_condF rfl ?_
        | refine J_block ?_
        | refine blockQ_normal ?_
        | refine J_exit ?_
        | refine seqQ_exit ?_
        | refine blockQ_hit ?_
        | refine blockQ_miss rfl ?_
        | refine J_skip ?_
        | refine J_ret ?_
        | refine seqQ_ret ?_
        | refine blockQ_ret ?_
        | refine loopQ_exit ?_
        | refine loopQ_ret ?_
        | refine J_label ?_
      refine J_region ?_
      refine L_q (Q_assign rfl) rfl rfl rfl ?_
      refine JL_nil ?_
      repeat first
        | refine J_seq ?_
        | refine seqQ_normal ?_
        | refine J_condT rfl ?_
        | refine J_condF rfl ?_
        | refine J_block ?_
        | refine blockQ_normal ?_
        | refine J_exit ?_
        | refine seqQ_exit ?_
        | refine blockQ_hit ?_
        | refine blockQ_miss rfl ?_
        | refine J_skip ?_
        | refine J_ret ?_
        | refine seqQ_ret ?_
        | refine blockQ_ret ?_
        | refine loopQ_exit ?_
        | refine loopQ_ret ?_
        | refine J_label ?_
      exact retQ_ret _ [] (.cons (RV_tmp rfl) .nil) ⟨rfl, rfl⟩ (Ent.re [1] rfl)
    | true =>
      rw [eb] at hrb
      have lb := right_long eb
      have na := rnumber_ok E (a.drop 4) (by rw [List.length_drop]; omega)
      have nb := rnumber_ok E (b.drop 4) (by rw [List.length_drop]; omega)
      rw [show be ((a.drop 4).take 4) = nw a 1 from rfl] at na
      rw [show be ((b.drop 4).take 4) = nw b 1 from rfl] at nb
      repeat first
        | refine J_seq ?_
        | refine seqQ_normal ?_
        | refine J_condT rfl ?_
        | refine J_condF rfl ?_
        | refine J_block ?_
        | refine blockQ_normal ?_
        | refine J_exit ?_
        | refine seqQ_exit ?_
        | refine blockQ_hit ?_
        | refine blockQ_miss rfl ?_
        | refine J_skip ?_
        | refine J_ret ?_
        | refine seqQ_ret ?_
        | refine blockQ_ret ?_
        | refine loopQ_exit ?_
        | refine loopQ_ret ?_
        | refine J_label ?_
      refine J_drawH [0] [0, 1, 2, 4, 5, 6, 8, 9] (.quiet 0 (.quiet 1 (.quiet 2 (.quiet 4 (.quiet 5 (.quiet 6 (.loud 3 (.loud 7 (.quiet 8 (.quiet 9 .done)))))))))) Try.mixed (by kernel_rfl) (by kernel_rfl) (by repeat (first | exact retQ_noP | refine seqQ_noP ?_ | refine blockQ_noP ?_ | refine loopQ_noP ?_)) ?_
      first
        | refine S_q (Ent.re [0] rfl) rfl (Q_fa0 rfl) rfl rfl rfl ?_
        | refine S_q (Ent.re [0] rfl) rfl (Q_fa rfl rfl) rfl rfl rfl ?_
        | refine S_q (Ent.re [0] rfl) rfl (Q_pfa rfl) rfl rfl rfl ?_
      refine S_q (Ent.re [0] rfl) rfl (Q_ia (o' := 0) 0 rfl rfl rfl (by decide) (by decide)) rfl rfl rfl ?_
      first
        | refine S_q (Ent.re [0] rfl) rfl (Q_ld 0 rfl rfl rfl rfl) rfl rfl rfl ?_
        | refine S_q (Ent.re [0] rfl) rfl (Q_ld 1 rfl rfl rfl rfl) rfl rfl rfl ?_
        | refine S_q (Ent.re [0] rfl) rfl (Q_ld 2 rfl rfl rfl rfl) rfl rfl rfl ?_
        | refine S_q (Ent.re [0] rfl) rfl (Q_ld 3 rfl rfl rfl rfl) rfl rfl rfl ?_
        | refine S_q (Ent.re [0] rfl) rfl (Q_ld 4 rfl rfl rfl rfl) rfl rfl rfl ?_
      first
        | refine S_q (Ent.re [0] rfl) rfl (Q_fa0 rfl) rfl rfl rfl ?_
        | refine S_q (Ent.re [0] rfl) rfl (Q_fa rfl rfl) rfl rfl rfl ?_
        | refine S_q (Ent.re [0] rfl) rfl (Q_pfa rfl) rfl rfl rfl ?_
      refine S_q (Ent.re [0] rfl) rfl (Q_ia (o' := 1) 1 rfl rfl rfl (by decide) (by decide)) rfl rfl rfl ?_
      first
        | refine S_q (Ent.re [0] rfl) rfl (Q_ld 0 rfl rfl rfl rfl) rfl rfl rfl ?_
        | refine S_q (Ent.re [0] rfl) rfl (Q_ld 1 rfl rfl rfl rfl) rfl rfl rfl ?_
        | refine S_q (Ent.re [0] rfl) rfl (Q_ld 2 rfl rfl rfl rfl) rfl rfl rfl ?_
        | refine S_q (Ent.re [0] rfl) rfl (Q_ld 3 rfl rfl rfl rfl) rfl rfl rfl ?_
        | refine S_q (Ent.re [0] rfl) rfl (Q_ld 4 rfl rfl rfl rfl) rfl rfl rfl ?_
      refine S_o rfl rfl rfl rfl (O_call [] [0,1] hra rfl rfl ?_)
      (rintro _ _ ⟨rfl, rfl⟩; refine ⟨_, fun _ => ⟨Ent.reN [0] rfl, Ent.refl _⟩, ?_⟩)
      refine JS.norm ?_
      refine S_o rfl rfl rfl rfl (O_call [] [0,1] hrb rfl rfl ?_)
      (rintro _ _ ⟨rfl, rfl⟩; refine ⟨_, fun _ => ⟨Ent.reN [0] rfl, Ent.refl _⟩, ?_⟩)
      refine JS.norm ?_
      refine S_q (Ent.re [0] rfl) rfl (Q_assign rfl) rfl rfl rfl ?_
      refine S_q (Ent.re [0] rfl) rfl (Q_assign rfl) rfl rfl rfl ?_
      refine S_nil ?_
      repeat first
        | refine J_seq ?_
        | refine seqQ_normal ?_
        | refine J_condT rfl ?_
        | refine J_condF rfl ?_
        | refine J_block ?_
        | refine blockQ_normal ?_
        | refine J_exit ?_
        | refine seqQ_exit ?_
        | refine blockQ_hit ?_
        | refine blockQ_miss rfl ?_
        | refine J_skip ?_
        | refine J_ret ?_
        | refine seqQ_ret ?_
        | refine blockQ_ret ?_
        | refine loopQ_exit ?_
        | refine loopQ_ret ?_
        | refine J_label ?_
      repeat first
        | refine J_seq ?_
        | refine seqQ_normal ?_
        | refine J_condT rfl ?_
        | refine J_condF rfl ?_
        | refine J_block ?_
        | refine blockQ_normal ?_
        | refine J_exit ?_
        | refine seqQ_exit ?_
        | refine blockQ_hit ?_
        | refine blockQ_miss rfl ?_
        | refine J_skip ?_
        | refine J_ret ?_
        | refine seqQ_ret ?_
        | refine blockQ_ret ?_
        | refine loopQ_exit ?_
        | refine loopQ_ret ?_
        | refine J_label ?_
      refine J_drawH [0] [0, 1, 2, 3, 4, 5, 6, 7, 8, 10, 11, 12, 13, 15, 16, 17] (.quiet 0 (.quiet 1 (.quiet 2 (.quiet 3 (.quiet 4 (.quiet 5 (.quiet 6 (.quiet 7 (.quiet 8 (.quiet 10 (.quiet 11 (.quiet 12 (.quiet 13 (.loud 9 (.loud 14 (.quiet 15 (.quiet 16 (.quiet 17 .done)))))))))))))))))) Try.mixed (by kernel_rfl) (by kernel_rfl) (by repeat (first | exact retQ_noP | refine seqQ_noP ?_ | refine blockQ_noP ?_ | refine loopQ_noP ?_)) ?_
      refine S_q (Ent.re [0] rfl) rfl (Q_move rfl) rfl rfl rfl ?_
      refine S_q (Ent.re [0] rfl) rfl (Q_move rfl) rfl rfl rfl ?_
      refine S_q (Ent.re [0] rfl) rfl (Q_move rfl) rfl rfl rfl ?_
      first
        | refine S_q (Ent.re [0] rfl) rfl (Q_pickT rfl rfl) rfl rfl rfl ?_
        | refine S_q (Ent.re [0] rfl) rfl (Q_pickF rfl rfl) rfl rfl rfl ?_
        | refine S_q (Ent.re [0] rfl) rfl (Q_pickB rfl rfl rfl) rfl rfl rfl ?_
      refine S_q (Ent.re [0] rfl) rfl (Q_move rfl) rfl rfl rfl ?_
      first
        | refine S_q (Ent.re [0] rfl) rfl (Q_fa0 rfl) rfl rfl rfl ?_
        | refine S_q (Ent.re [0] rfl) rfl (Q_fa rfl rfl) rfl rfl rfl ?_
        | refine S_q (Ent.re [0] rfl) rfl (Q_pfa rfl) rfl rfl rfl ?_
      refine S_q (Ent.re [0] rfl) rfl (Q_ia (o' := 1) 1 rfl rfl rfl (by decide) (by decide)) rfl rfl rfl ?_
      first
        | refine S_q (Ent.re [0] rfl) rfl (Q_ld 0 rfl rfl rfl rfl) rfl rfl rfl ?_
        | refine S_q (Ent.re [0] rfl) rfl (Q_ld 1 rfl rfl rfl rfl) rfl rfl rfl ?_
        | refine S_q (Ent.re [0] rfl) rfl (Q_ld 2 rfl rfl rfl rfl) rfl rfl rfl ?_
        | refine S_q (Ent.re [0] rfl) rfl (Q_ld 3 rfl rfl rfl rfl) rfl rfl rfl ?_
        | refine S_q (Ent.re [0] rfl) rfl (Q_ld 4 rfl rfl rfl rfl) rfl rfl rfl ?_
      refine S_q (Ent.re [0] rfl) rfl (Q_ssL 4 rfl rfl rfl (by omega)) rfl rfl rfl ?_
      first
        | refine S_q (Ent.re [0] rfl) rfl (Q_fa0 rfl) rfl rfl rfl ?_
        | refine S_q (Ent.re [0] rfl) rfl (Q_fa rfl rfl) rfl rfl rfl ?_
        | refine S_q (Ent.re [0] rfl) rfl (Q_pfa rfl) rfl rfl rfl ?_
      refine S_q (Ent.re [0] rfl) rfl (Q_ia (o' := 0) 0 rfl rfl rfl (by decide) (by decide)) rfl rfl rfl ?_
      first
        | refine S_q (Ent.re [0] rfl) rfl (Q_ld 0 rfl rfl rfl rfl) rfl rfl rfl ?_
        | refine S_q (Ent.re [0] rfl) rfl (Q_ld 1 rfl rfl rfl rfl) rfl rfl rfl ?_
        | refine S_q (Ent.re [0] rfl) rfl (Q_ld 2 rfl rfl rfl rfl) rfl rfl rfl ?_
        | refine S_q (Ent.re [0] rfl) rfl (Q_ld 3 rfl rfl rfl rfl) rfl rfl rfl ?_
        | refine S_q (Ent.re [0] rfl) rfl (Q_ld 4 rfl rfl rfl rfl) rfl rfl rfl ?_
      refine S_q (Ent.re [0] rfl) rfl (Q_ssL 4 rfl rfl rfl (by omega)) rfl rfl rfl ?_
      refine S_o rfl rfl rfl rfl (O_call [] [0,1] nb rfl rfl ?_)
      (rintro _ _ ⟨rfl, rfl⟩; refine ⟨_, fun _ => ⟨Ent.reN [0] rfl, Ent.refl _⟩, ?_⟩)
      refine JS.norm ?_
      refine S_o rfl rfl rfl rfl (O_call [] [0,1] na rfl rfl ?_)
      (rintro _ _ ⟨rfl, rfl⟩; refine ⟨_, fun _ => ⟨Ent.reN [0] rfl, Ent.refl _⟩, ?_⟩)
      refine JS.norm ?_
      refine S_q (Ent.re [0] rfl) rfl (Q_gtr rfl rfl) rfl rfl rfl ?_
      first
        | refine S_q (Ent.re [0] rfl) rfl (Q_pickT rfl rfl) rfl rfl rfl ?_
        | refine S_q (Ent.re [0] rfl) rfl (Q_pickF rfl rfl) rfl rfl rfl ?_
        | refine S_q (Ent.re [0] rfl) rfl (Q_pickB rfl rfl rfl) rfl rfl rfl ?_
      refine S_q (Ent.re [0] rfl) rfl (Q_assign rfl) rfl rfl rfl ?_
      refine S_nil ?_
      repeat first
        | refine J_seq ?_
        | refine seqQ_normal ?_
        | refine J_condT rfl ?_
        | refine J_condF rfl ?_
        | refine J_block ?_
        | refine blockQ_normal ?_
        | refine J_exit ?_
        | refine seqQ_exit ?_
        | refine blockQ_hit ?_
        | refine blockQ_miss rfl ?_
        | refine J_skip ?_
        | refine J_ret ?_
        | refine seqQ_ret ?_
        | refine blockQ_ret ?_
        | refine loopQ_exit ?_
        | refine loopQ_ret ?_
        | refine J_label ?_
      refine J_condD rfl (fun h => ?_) (fun h => ?_)
      · have et : told a b = 1 := by simp [told, ea, eb]; omega
        rw [et]
        repeat first
          | refine J_seq ?_
          | refine seqQ_normal ?_
          | refine J_condT rfl ?_
          | refine J_condF rfl ?_
          | refine J_block ?_
          | refine blockQ_normal ?_
          | refine J_exit ?_
          | refine seqQ_exit ?_
          | refine blockQ_hit ?_
          | refine blockQ_miss rfl ?_
          | refine J_skip ?_
          | refine J_ret ?_
          | refine seqQ_ret ?_
          | refine blockQ_ret ?_
          | refine loopQ_exit ?_
          | refine loopQ_ret ?_
          | refine J_label ?_
        refine J_region ?_
        refine L_q (Q_assign rfl) rfl rfl rfl ?_
        refine JL_nil ?_
        repeat first
          | refine J_seq ?_
          | refine seqQ_normal ?_
          | refine J_condT rfl ?_
          | refine J_condF rfl ?_
          | refine J_block ?_
          | refine blockQ_normal ?_
          | refine J_exit ?_
          | refine seqQ_exit ?_
          | refine blockQ_hit ?_
          | refine blockQ_miss rfl ?_
          | refine J_skip ?_
          | refine J_ret ?_
          | refine seqQ_ret ?_
          | refine blockQ_ret ?_
          | refine loopQ_exit ?_
          | refine loopQ_ret ?_
          | refine J_label ?_
        exact retQ_ret _ [] (.cons (RV_tmp rfl) .nil) ⟨rfl, rfl⟩ (Ent.re [1] rfl)
      · have et : told a b = 0 := by simp [told, ea, eb]; omega
        rw [et]
        repeat first
          | refine J_seq ?_
          | refine seqQ_normal ?_
          | refine J_condT rfl ?_
          | refine J_condF rfl ?_
          | refine J_block ?_
          | refine blockQ_normal ?_
          | refine J_exit ?_
          | refine seqQ_exit ?_
          | refine blockQ_hit ?_
          | refine blockQ_miss rfl ?_
          | refine J_skip ?_
          | refine J_ret ?_
          | refine seqQ_ret ?_
          | refine blockQ_ret ?_
          | refine loopQ_exit ?_
          | refine loopQ_ret ?_
          | refine J_label ?_
        refine J_region ?_
        refine L_q (Q_move rfl) rfl rfl rfl ?_
        refine L_q (Q_assign rfl) rfl rfl rfl ?_
        refine JL_nil ?_
        repeat first
          | refine J_seq ?_
          | refine seqQ_normal ?_
          | refine J_condT rfl ?_
          | refine J_condF rfl ?_
          | refine J_block ?_
          | refine blockQ_normal ?_
          | refine J_exit ?_
          | refine seqQ_exit ?_
          | refine blockQ_hit ?_
          | refine blockQ_miss rfl ?_
          | refine J_skip ?_
          | refine J_ret ?_
          | refine seqQ_ret ?_
          | refine blockQ_ret ?_
          | refine loopQ_exit ?_
          | refine loopQ_ret ?_
          | refine J_label ?_
        repeat first
          | refine J_seq ?_
          | refine seqQ_normal ?_
          | refine J_condT rfl ?_
          | refine J_condF rfl ?_
          | refine J_block ?_
          | refine blockQ_normal ?_
          | refine J_exit ?_
          | refine seqQ_exit ?_
          | refine blockQ_hit ?_
          | refine blockQ_miss rfl ?_
          | refine J_skip ?_
          | refine J_ret ?_
          | refine seqQ_ret ?_
          | refine blockQ_ret ?_
          | refine loopQ_exit ?_
          | refine loopQ_ret ?_
          | refine J_label ?_
        refine J_region ?_
        refine L_q (Q_assign rfl) rfl rfl rfl ?_
        refine JL_nil ?_
        repeat first
          | refine J_seq ?_
          | refine seqQ_normal ?_
          | refine J_condT rfl ?_
          | refine J_condF rfl ?_
          | refine J_block ?_
          | refine blockQ_normal ?_
          | refine J_exit ?_
          | refine seqQ_exit ?_
          | refine blockQ_hit ?_
          | refine blockQ_miss rfl ?_
          | refine J_skip ?_
          | refine J_ret ?_
          | refine seqQ_ret ?_
          | refine blockQ_ret ?_
          | refine loopQ_exit ?_
          | refine loopQ_ret ?_
          | refine J_label ?_
        exact retQ_ret _ [] (.cons (RV_tmp rfl) .nil) ⟨rfl, rfl⟩ (Ent.re [1] rfl)
end Go.Proofs
