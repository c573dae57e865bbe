/- The law SnapTurned: its walk. -/
import Derived.Test.YtjpkeibhimimpaaTurnP
set_option autoImplicit false
namespace Go.Proofs
open Go.SL
attribute [local irreducible] J JL QOp JOp seqQ blockQ loopQ retQ slc cel hex star pur stars Does RV Ent pAt
theorem turned_calls (E : World) (a b : List UInt8) (d : De) : Does Try.prog E 6 [str a, str b, .agg (deV d).toArray] [] fun v L => v = .bool true ∧ L = [] := by
  refine Does.of Try.func6 rfl Try.ntmps6 rfl rfl fun F => ?_
  refine J.norm ?_
  repeat first
    | refine J_seq ?_
    | refine seqQ_normal ?_
    | refine J_condT rfl ?_
    | refine J_condF rfl ?_
    | refine J_block ?_
    | refine blockQ_normal ?_
    | refine J_exit ?_
    | refine seqQ_exit ?_
    | refine blockQ_hit ?_
    | refine blockQ_miss rfl ?_
    | refine J_skip ?_
    | refine J_ret ?_
    | refine seqQ_ret ?_
    | refine blockQ_ret ?_
    | refine loopQ_exit ?_
    | refine loopQ_ret ?_
    | refine J_label ?_
  refine J_region ?_
  refine L_o rfl rfl rfl (O_box rfl fun b5 => ?_)
  refine L_q (Q_assign rfl) rfl rfl rfl ?_
  refine JL_nil ?_
  repeat first
    | refine J_seq ?_
    | refine seqQ_normal ?_
    | refine J_condT rfl ?_
    | refine J_condF rfl ?_
    | refine J_block ?_
    | refine blockQ_normal ?_
    | refine J_exit ?_
    | refine seqQ_exit ?_
    | refine blockQ_hit ?_
    | refine blockQ_miss rfl ?_
    | refine J_skip ?_
    | refine J_ret ?_
    | refine seqQ_ret ?_
    | refine blockQ_ret ?_
    | refine loopQ_exit ?_
    | refine loopQ_ret ?_
    | refine J_label ?_
  by_cases h1 : 5000 < a.length
  · repeat first
      | refine J_seq ?_
      | refine seqQ_normal ?_
      | refine J_condT rfl ?_
      | refine J_condF rfl ?_
      | refine J_block ?_
      | refine blockQ_normal ?_
      | refine J_exit ?_
      | refine seqQ_exit ?_
      | refine blockQ_hit ?_
      | refine blockQ_miss rfl ?_
      | refine J_skip ?_
      | refine J_ret ?_
      | refine seqQ_ret ?_
      | refine blockQ_ret ?_
      | refine loopQ_exit ?_
      | refine loopQ_ret ?_
      | refine J_label ?_
    refine J_region ?_
    refine L_q (Q_move rfl) rfl rfl rfl ?_
    refine L_q (Q_slen rfl) rfl rfl rfl ?_
    refine L_q ((Q_gtr rfl rfl).as (v' := .bool true) (congrArg Value.bool (decide_eq_true (by omega)))) rfl rfl rfl ?_
    refine L_q (Q_move rfl) rfl rfl rfl ?_
    refine L_n rfl rfl rfl ?_
    refine L_n rfl rfl rfl ?_
    refine L_n rfl rfl rfl ?_
    first
      | refine L_q (Q_pickT rfl rfl) rfl rfl rfl ?_
      | refine L_q (Q_pickF rfl rfl) rfl rfl rfl ?_
      | refine L_q (Q_pickB rfl rfl rfl) rfl rfl rfl ?_
    refine JL_nil ?_
    repeat first
      | refine J_seq ?_
      | refine seqQ_normal ?_
      | refine J_condT rfl ?_
      | refine J_condF rfl ?_
      | refine J_block ?_
      | refine blockQ_normal ?_
      | refine J_exit ?_
      | refine seqQ_exit ?_
      | refine blockQ_hit ?_
      | refine blockQ_miss rfl ?_
      | refine J_skip ?_
      | refine J_ret ?_
      | refine seqQ_ret ?_
      | refine blockQ_ret ?_
      | refine loopQ_exit ?_
      | refine loopQ_ret ?_
      | refine J_label ?_
    repeat first
      | refine J_seq ?_
      | refine seqQ_normal ?_
      | refine J_condT rfl ?_
      | refine J_condF rfl ?_
      | refine J_block ?_
      | refine blockQ_normal ?_
      | refine J_exit ?_
      | refine seqQ_exit ?_
      | refine blockQ_hit ?_
      | refine blockQ_miss rfl ?_
      | refine J_skip ?_
      | refine J_ret ?_
      | refine seqQ_ret ?_
      | refine blockQ_ret ?_
      | refine loopQ_exit ?_
      | refine loopQ_ret ?_
      | refine J_label ?_
    refine J_region ?_
    refine L_o rfl rfl rfl (O_call [] [0,1] (awake_ok E) rfl rfl ?_)
    rintro _ _ ⟨rfl, rfl⟩
    refine JL.norm ?_
    refine L_q (Q_assign rfl) rfl rfl rfl ?_
    refine JL_nil ?_
    repeat first
      | refine J_seq ?_
      | refine seqQ_normal ?_
      | refine J_condT rfl ?_
      | refine J_condF rfl ?_
      | refine J_block ?_
      | refine blockQ_normal ?_
      | refine J_exit ?_
      | refine seqQ_exit ?_
      | refine blockQ_hit ?_
      | refine blockQ_miss rfl ?_
      | refine J_skip ?_
      | refine J_ret ?_
      | refine seqQ_ret ?_
      | refine blockQ_ret ?_
      | refine loopQ_exit ?_
      | refine loopQ_ret ?_
      | refine J_label ?_
    exact retQ_ret _ [] (.cons (RV_tmp rfl) .nil) ⟨rfl, rfl⟩ (Ent.re [1] rfl)
  repeat first
    | refine J_seq ?_
    | refine seqQ_normal ?_
    | refine J_condT rfl ?_
    | refine J_condF rfl ?_
    | refine J_block ?_
    | refine blockQ_normal ?_
    | refine J_exit ?_
    | refine seqQ_exit ?_
    | refine blockQ_hit ?_
    | refine blockQ_miss rfl ?_
    | refine J_skip ?_
    | refine J_ret ?_
    | refine seqQ_ret ?_
    | refine blockQ_ret ?_
    | refine loopQ_exit ?_
    | refine loopQ_ret ?_
    | refine J_label ?_
  refine J_region ?_
  refine L_q (Q_move rfl) rfl rfl rfl ?_
  refine L_q (Q_slen rfl) rfl rfl rfl ?_
  refine L_q ((Q_gtr rfl rfl).as (v' := .bool false) (congrArg Value.bool (decide_eq_false (by omega)))) rfl rfl rfl ?_
  refine L_q (Q_move rfl) rfl rfl rfl ?_
  refine L_q (Q_move rfl) rfl rfl rfl ?_
  refine L_q (Q_slen rfl) rfl rfl rfl ?_
  refine L_q (Q_gtr rfl rfl) rfl rfl rfl ?_
  first
    | refine L_q (Q_pickT rfl rfl) rfl rfl rfl ?_
    | refine L_q (Q_pickF rfl rfl) rfl rfl rfl ?_
    | refine L_q (Q_pickB rfl rfl rfl) rfl rfl rfl ?_
  refine JL_nil ?_
  repeat first
    | refine J_seq ?_
    | refine seqQ_normal ?_
    | refine J_condT rfl ?_
    | refine J_condF rfl ?_
    | refine J_block ?_
    | refine blockQ_normal ?_
    | refine J_exit ?_
    | refine seqQ_exit ?_
    | refine blockQ_hit ?_
    | refine blockQ_miss rfl ?_
    | refine J_skip ?_
    | refine J_ret ?_
    | refine seqQ_ret ?_
    | refine blockQ_ret ?_
    | refine loopQ_exit ?_
    | refine loopQ_ret ?_
    | refine J_label ?_
  refine J_condD rfl (fun h2 => ?_) (fun h2 => ?_)
  · repeat first
      | refine J_seq ?_
      | refine seqQ_normal ?_
      | refine J_condT rfl ?_
      | refine J_condF rfl ?_
      | refine J_block ?_
      | refine blockQ_normal ?_
      | refine J_exit ?_
      | refine seqQ_exit ?_
      | refine blockQ_hit ?_
      | refine blockQ_miss rfl ?_
      | refine J_skip ?_
      | refine J_ret ?_
      | refine seqQ_ret ?_
      | refine blockQ_ret ?_
      | refine loopQ_exit ?_
      | refine loopQ_ret ?_
      | refine J_label ?_
    refine J_region ?_
    refine L_o rfl rfl rfl (O_call [] [0,1] (awake_ok E) rfl rfl ?_)
    rintro _ _ ⟨rfl, rfl⟩
    refine JL.norm ?_
    refine L_q (Q_assign rfl) rfl rfl rfl ?_
    refine JL_nil ?_
    repeat first
      | refine J_seq ?_
      | refine seqQ_normal ?_
      | refine J_condT rfl ?_
      | refine J_condF rfl ?_
      | refine J_block ?_
      | refine blockQ_normal ?_
      | refine J_exit ?_
      | refine seqQ_exit ?_
      | refine blockQ_hit ?_
      | refine blockQ_miss rfl ?_
      | refine J_skip ?_
      | refine J_ret ?_
      | refine seqQ_ret ?_
      | refine blockQ_ret ?_
      | refine loopQ_exit ?_
      | refine loopQ_ret ?_
      | refine J_label ?_
    exact retQ_ret _ [] (.cons (RV_tmp rfl) .nil) ⟨rfl, rfl⟩ (Ent.re [1] rfl)
  have ha : a.length ≤ 5000 := by omega
  have hb : b.length ≤ 5000 := by omega
  obtain ⟨e1, e2⟩ := two_writes a b (by omega) (by omega)
  have lX : (whole 1 a).length ≤ 5012 := by rw [whole_len]; omega
  have lY : (whole 2 b).length ≤ 5012 := by rw [whole_len]; omega
  have w1 := fun p => write_ok E p SV.nil SV.nil [] [] a (-1) (by decide) (by decide)
  rw [e1] at w1
  have w2 := fun p S T => write_ok E p S T (whole 1 a) [] b (-1) (by omega) (by simp)
  rw [e2] at w2
  have sp := fun p S T => spoil_ok E p S T (whole 1 a) (whole 2 b) d.slot d.n d.by'
  obtain ⟨l1, l2⟩ := doSpoil_len (whole 1 a) (whole 2 b) d.slot d.n d.by'
  have htt := turned_tells a b d
  dsimp only at htt w1 w2
  generalize whole 1 a = X at *
  generalize whole 2 b = Y at *
  have ld := fun p S T => load_ok E p S T (doSpoil X Y d.slot d.n d.by').1 (doSpoil X Y d.slot d.n d.by').2.1 (by omega) (by omega)
  generalize (doSpoil X Y d.slot d.n d.by').1 = X2 at *
  generalize (doSpoil X Y d.slot d.n d.by').2.1 = Y2 at *
  generalize (doSpoil X Y d.slot d.n d.by').2.2 = ok at *
  obtain ⟨hb2, ha1⟩ := htt
  repeat first
    | refine J_seq ?_
    | refine seqQ_normal ?_
    | refine J_condT rfl ?_
    | refine J_condF rfl ?_
    | refine J_block ?_
    | refine blockQ_normal ?_
    | refine J_exit ?_
    | refine seqQ_exit ?_
    | refine blockQ_hit ?_
    | refine blockQ_miss rfl ?_
    | refine J_skip ?_
    | refine J_ret ?_
    | refine seqQ_ret ?_
    | refine blockQ_ret ?_
    | refine loopQ_exit ?_
    | refine loopQ_ret ?_
    | refine J_label ?_
  refine J_region ?_
  refine L_o rfl rfl rfl (O_call [] [0,1] (snew_ok E) rfl rfl ?_)
  rintro _ _ ⟨p, rfl, rfl⟩
  refine JL.norm ?_
  refine L_q (Q_assign rfl) rfl rfl rfl ?_
  refine JL_nil ?_
  repeat first
    | refine J_seq ?_
    | refine seqQ_normal ?_
    | refine J_condT rfl ?_
    | refine J_condF rfl ?_
    | refine J_block ?_
    | refine blockQ_normal ?_
    | refine J_exit ?_
    | refine seqQ_exit ?_
    | refine blockQ_hit ?_
    | refine blockQ_miss rfl ?_
    | refine J_skip ?_
    | refine J_ret ?_
    | refine seqQ_ret ?_
    | refine blockQ_ret ?_
    | refine loopQ_exit ?_
    | refine loopQ_ret ?_
    | refine J_label ?_
  repeat first
    | refine J_seq ?_
    | refine seqQ_normal ?_
    | refine J_condT rfl ?_
    | refine J_condF rfl ?_
    | refine J_block ?_
    | refine blockQ_normal ?_
    | refine J_exit ?_
    | refine seqQ_exit ?_
    | refine blockQ_hit ?_
    | refine blockQ_miss rfl ?_
    | refine J_skip ?_
    | refine J_ret ?_
    | refine seqQ_ret ?_
    | refine blockQ_ret ?_
    | refine loopQ_exit ?_
    | refine loopQ_ret ?_
    | refine J_label ?_
  refine J_region ?_
  refine L_q (Q_move rfl) rfl rfl rfl ?_
  refine L_q (Q_move rfl) rfl rfl rfl ?_
  refine L_o rfl rfl rfl (O_call [0,1,2] [3,4] (w1 p) rfl rfl ?_)
  rintro _ _ ⟨S1, T1, rfl, rfl⟩
  refine JL.norm ?_
  refine JL_nil ?_
  repeat first
    | refine J_seq ?_
    | refine seqQ_normal ?_
    | refine J_condT rfl ?_
    | refine J_condF rfl ?_
    | refine J_block ?_
    | refine blockQ_normal ?_
    | refine J_exit ?_
    | refine seqQ_exit ?_
    | refine blockQ_hit ?_
    | refine blockQ_miss rfl ?_
    | refine J_skip ?_
    | refine J_ret ?_
    | refine seqQ_ret ?_
    | refine blockQ_ret ?_
    | refine loopQ_exit ?_
    | refine loopQ_ret ?_
    | refine J_label ?_
  repeat first
    | refine J_seq ?_
    | refine seqQ_normal ?_
    | refine J_condT rfl ?_
    | refine J_condF rfl ?_
    | refine J_block ?_
    | refine blockQ_normal ?_
    | refine J_exit ?_
    | refine seqQ_exit ?_
    | refine blockQ_hit ?_
    | refine blockQ_miss rfl ?_
    | refine J_skip ?_
    | refine J_ret ?_
    | refine seqQ_ret ?_
    | refine blockQ_ret ?_
    | refine loopQ_exit ?_
    | refine loopQ_ret ?_
    | refine J_label ?_
  refine J_region ?_
  refine L_q (Q_move rfl) rfl rfl rfl ?_
  refine L_q (Q_move rfl) rfl rfl rfl ?_
  refine L_o rfl rfl rfl (O_call [0,1,2] [3,4] (w2 p S1 T1) rfl rfl ?_)
  rintro _ _ ⟨S2, T2, rfl, rfl⟩
  refine JL.norm ?_
  refine JL_nil ?_
  repeat first
    | refine J_seq ?_
    | refine seqQ_normal ?_
    | refine J_condT rfl ?_
    | refine J_condF rfl ?_
    | refine J_block ?_
    | refine blockQ_normal ?_
    | refine J_exit ?_
    | refine seqQ_exit ?_
    | refine blockQ_hit ?_
    | refine blockQ_miss rfl ?_
    | refine J_skip ?_
    | refine J_ret ?_
    | refine seqQ_ret ?_
    | refine blockQ_ret ?_
    | refine loopQ_exit ?_
    | refine loopQ_ret ?_
    | refine J_label ?_
  repeat first
    | refine J_seq ?_
    | refine seqQ_normal ?_
    | refine J_condT rfl ?_
    | refine J_condF rfl ?_
    | refine J_block ?_
    | refine blockQ_normal ?_
    | refine J_exit ?_
    | refine seqQ_exit ?_
    | refine blockQ_hit ?_
    | refine blockQ_miss rfl ?_
    | refine J_skip ?_
    | refine J_ret ?_
    | refine seqQ_ret ?_
    | refine blockQ_ret ?_
    | refine loopQ_exit ?_
    | refine loopQ_ret ?_
    | refine J_label ?_
  refine J_region ?_
  refine L_q (Q_move rfl) rfl rfl rfl ?_
  first
    | refine L_q (Q_fa0 rfl) rfl rfl rfl ?_
    | refine L_q (Q_fa rfl rfl) rfl rfl rfl ?_
    | refine L_q (Q_pfa rfl) rfl rfl rfl ?_
  first
    | refine L_q (Q_ld 0 rfl rfl rfl rfl) rfl rfl rfl ?_
    | refine L_q (Q_ld 1 rfl rfl rfl rfl) rfl rfl rfl ?_
    | refine L_q (Q_ld 2 rfl rfl rfl rfl) rfl rfl rfl ?_
    | refine L_q (Q_ld 3 rfl rfl rfl rfl) rfl rfl rfl ?_
    | refine L_q (Q_ld 4 rfl rfl rfl rfl) rfl rfl rfl ?_
  first
    | refine L_q (Q_fa0 rfl) rfl rfl rfl ?_
    | refine L_q (Q_fa rfl rfl) rfl rfl rfl ?_
    | refine L_q (Q_pfa rfl) rfl rfl rfl ?_
  first
    | refine L_q (Q_ld 0 rfl rfl rfl rfl) rfl rfl rfl ?_
    | refine L_q (Q_ld 1 rfl rfl rfl rfl) rfl rfl rfl ?_
    | refine L_q (Q_ld 2 rfl rfl rfl rfl) rfl rfl rfl ?_
    | refine L_q (Q_ld 3 rfl rfl rfl rfl) rfl rfl rfl ?_
    | refine L_q (Q_ld 4 rfl rfl rfl rfl) rfl rfl rfl ?_
  first
    | refine L_q (Q_fa0 rfl) rfl rfl rfl ?_
    | refine L_q (Q_fa rfl rfl) rfl rfl rfl ?_
    | refine L_q (Q_pfa rfl) rfl rfl rfl ?_
  first
    | refine L_q (Q_ld 0 rfl rfl rfl rfl) rfl rfl rfl ?_
    | refine L_q (Q_ld 1 rfl rfl rfl rfl) rfl rfl rfl ?_
    | refine L_q (Q_ld 2 rfl rfl rfl rfl) rfl rfl rfl ?_
    | refine L_q (Q_ld 3 rfl rfl rfl rfl) rfl rfl rfl ?_
    | refine L_q (Q_ld 4 rfl rfl rfl rfl) rfl rfl rfl ?_
  refine L_o rfl rfl rfl (O_call [0,1,2] [3,4] (sp p S2 T2) rfl rfl ?_)
  rintro _ _ ⟨rfl, rfl⟩
  refine JL.norm ?_
  refine L_q (Q_assign rfl) rfl rfl rfl ?_
  refine JL_nil ?_
  repeat first
    | refine J_seq ?_
    | refine seqQ_normal ?_
    | refine J_condT rfl ?_
    | refine J_condF rfl ?_
    | refine J_block ?_
    | refine blockQ_normal ?_
    | refine J_exit ?_
    | refine seqQ_exit ?_
    | refine blockQ_hit ?_
    | refine blockQ_miss rfl ?_
    | refine J_skip ?_
    | refine J_ret ?_
    | refine seqQ_ret ?_
    | refine blockQ_ret ?_
    | refine loopQ_exit ?_
    | refine loopQ_ret ?_
    | refine J_label ?_
  by_cases hc : ok = false ∨ by8 d.by' = 0 ∨ d.slot = 0
  · obtain ⟨q1, q2⟩ := hb2 hc
    rw [q1, q2] at ld
    repeat first
      | refine J_seq ?_
      | refine seqQ_normal ?_
      | refine J_condT rfl ?_
      | refine J_condF rfl ?_
      | refine J_block ?_
      | refine blockQ_normal ?_
      | refine J_exit ?_
      | refine seqQ_exit ?_
      | refine blockQ_hit ?_
      | refine blockQ_miss rfl ?_
      | refine J_skip ?_
      | refine J_ret ?_
      | refine seqQ_ret ?_
      | refine blockQ_ret ?_
      | refine loopQ_exit ?_
      | refine loopQ_ret ?_
      | refine J_label ?_
    refine J_region ?_
    refine L_q (Q_move rfl) rfl rfl rfl ?_
    refine L_o rfl rfl rfl (O_call [0,1,2] [3,4] (ld p S2 T2) rfl rfl ?_)
    rintro _ _ ⟨rfl, rfl⟩
    refine JL.norm ?_
    refine L_q (Q_move rfl) rfl rfl rfl ?_
    refine L_q (Q_extract (v := str b) rfl rfl) rfl rfl rfl ?_
    refine L_q (Q_extract (v := .int .i64 2) rfl rfl) rfl rfl rfl ?_
    refine L_q (Q_assign rfl) rfl rfl rfl ?_
    refine L_q (Q_assign rfl) rfl rfl rfl ?_
    refine JL_nil ?_
    repeat first
      | refine J_seq ?_
      | refine seqQ_normal ?_
      | refine J_condT rfl ?_
      | refine J_condF rfl ?_
      | refine J_block ?_
      | refine blockQ_normal ?_
      | refine J_exit ?_
      | refine seqQ_exit ?_
      | refine blockQ_hit ?_
      | refine blockQ_miss rfl ?_
      | refine J_skip ?_
      | refine J_ret ?_
      | refine seqQ_ret ?_
      | refine blockQ_ret ?_
      | refine loopQ_exit ?_
      | refine loopQ_ret ?_
      | refine J_label ?_
    cases ok with
    | false =>
      repeat first
        | refine J_seq ?_
        | refine seqQ_normal ?_
        | refine J_condT rfl ?_
        | refine J_condF rfl ?_
        | refine J_block ?_
        | refine blockQ_normal ?_
        | refine J_exit ?_
        | refine seqQ_exit ?_
        | refine blockQ_hit ?_
        | refine blockQ_miss rfl ?_
        | refine J_skip ?_
        | refine J_ret ?_
        | refine seqQ_ret ?_
        | refine blockQ_ret ?_
        | refine loopQ_exit ?_
        | refine loopQ_ret ?_
        | refine J_label ?_
      refine J_region ?_
      refine L_q (Q_move rfl) rfl rfl rfl ?_
      first
        | refine L_q (Q_notD rfl) rfl rfl rfl ?_
        | refine L_q (Q_not rfl) rfl rfl rfl ?_
      refine L_q (Q_move rfl) rfl rfl rfl ?_
      refine L_n rfl rfl rfl ?_
      refine L_n rfl rfl rfl ?_
      refine L_n rfl rfl rfl ?_
      refine L_n rfl rfl rfl ?_
      first
        | refine L_q (Q_pickT rfl rfl) rfl rfl rfl ?_
        | refine L_q (Q_pickF rfl rfl) rfl rfl rfl ?_
        | refine L_q (Q_pickB rfl rfl rfl) rfl rfl rfl ?_
      refine L_q (Q_move rfl) rfl rfl rfl ?_
      refine L_n rfl rfl rfl ?_
      refine L_n rfl rfl rfl ?_
      refine L_n rfl rfl rfl ?_
      first
        | refine L_q (Q_pickT rfl rfl) rfl rfl rfl ?_
        | refine L_q (Q_pickF rfl rfl) rfl rfl rfl ?_
        | refine L_q (Q_pickB rfl rfl rfl) rfl rfl rfl ?_
      refine JL_nil ?_
      repeat first
        | refine J_seq ?_
        | refine seqQ_normal ?_
        | refine J_condT rfl ?_
        | refine J_condF rfl ?_
        | refine J_block ?_
        | refine blockQ_normal ?_
        | refine J_exit ?_
        | refine seqQ_exit ?_
        | refine blockQ_hit ?_
        | refine blockQ_miss rfl ?_
        | refine J_skip ?_
        | refine J_ret ?_
        | refine seqQ_ret ?_
        | refine blockQ_ret ?_
        | refine loopQ_exit ?_
        | refine loopQ_ret ?_
        | refine J_label ?_
      repeat first
        | refine J_seq ?_
        | refine seqQ_normal ?_
        | refine J_condT rfl ?_
        | refine J_condF rfl ?_
        | refine J_block ?_
        | refine blockQ_normal ?_
        | refine J_exit ?_
        | refine seqQ_exit ?_
        | refine blockQ_hit ?_
        | refine blockQ_miss rfl ?_
        | refine J_skip ?_
        | refine J_ret ?_
        | refine seqQ_ret ?_
        | refine blockQ_ret ?_
        | refine loopQ_exit ?_
        | refine loopQ_ret ?_
        | refine J_label ?_
      refine J_region ?_
      refine L_q (Q_move rfl) rfl rfl rfl ?_
      refine L_q (Q_move rfl) rfl rfl rfl ?_
      refine L_q ((Q_seql rfl rfl).as (v' := .bool true) (congrArg Value.bool (decide_eq_true rfl))) rfl rfl rfl ?_
      refine L_q (Q_move rfl) rfl rfl rfl ?_
      refine L_q (Q_move rfl) rfl rfl rfl ?_
      refine L_q ((Q_eql rfl rfl).as (v' := .bool true) rfl) rfl rfl rfl ?_
      first
        | refine L_q (Q_pickT rfl rfl) rfl rfl rfl ?_
        | refine L_q (Q_pickF rfl rfl) rfl rfl rfl ?_
        | refine L_q (Q_pickB rfl rfl rfl) rfl rfl rfl ?_
      refine L_q (Q_move rfl) rfl rfl rfl ?_
      refine L_o rfl rfl rfl (O_call [] [0,1,2,3,4] (awake_ok E) rfl rfl ?_)
      rintro _ _ ⟨rfl, rfl⟩
      refine JL.norm ?_
      first
        | refine L_q (Q_pickT rfl rfl) rfl rfl rfl ?_
        | refine L_q (Q_pickF rfl rfl) rfl rfl rfl ?_
        | refine L_q (Q_pickB rfl rfl rfl) rfl rfl rfl ?_
      refine L_q (Q_assign rfl) rfl rfl rfl ?_
      refine JL_nil ?_
      repeat first
        | refine J_seq ?_
        | refine seqQ_normal ?_
        | refine J_condT rfl ?_
        | refine J_condF rfl ?_
        | refine J_block ?_
        | refine blockQ_normal ?_
        | refine J_exit ?_
        | refine seqQ_exit ?_
        | refine blockQ_hit ?_
        | refine blockQ_miss rfl ?_
        | refine J_skip ?_
        | refine J_ret ?_
        | refine seqQ_ret ?_
        | refine blockQ_ret ?_
        | refine loopQ_exit ?_
        | refine loopQ_ret ?_
        | refine J_label ?_
      exact retQ_ret _ [] (.cons (RV_tmp rfl) .nil) ⟨rfl, rfl⟩ (Ent.re [4] rfl)
    | true =>
      by_cases hz : by8 d.by' = 0
      · have hz2 : ((by8 d.by').toNat : Int) = 0 := by rw [hz]; rfl
        repeat first
          | refine J_seq ?_
          | refine seqQ_normal ?_
          | refine J_condT rfl ?_
          | refine J_condF rfl ?_
          | refine J_block ?_
          | refine blockQ_normal ?_
          | refine J_exit ?_
          | refine seqQ_exit ?_
          | refine blockQ_hit ?_
          | refine blockQ_miss rfl ?_
          | refine J_skip ?_
          | refine J_ret ?_
          | refine seqQ_ret ?_
          | refine blockQ_ret ?_
          | refine loopQ_exit ?_
          | refine loopQ_ret ?_
          | refine J_label ?_
        refine J_region ?_
        refine L_q (Q_move rfl) rfl rfl rfl ?_
        first
          | refine L_q (Q_notD rfl) rfl rfl rfl ?_
          | refine L_q (Q_not rfl) rfl rfl rfl ?_
        refine L_q (Q_move rfl) rfl rfl rfl ?_
        first
          | refine L_q (Q_fa0 rfl) rfl rfl rfl ?_
          | refine L_q (Q_fa rfl rfl) rfl rfl rfl ?_
          | refine L_q (Q_pfa rfl) rfl rfl rfl ?_
        first
          | refine L_q (Q_ld 0 rfl rfl rfl rfl) rfl rfl rfl ?_
          | refine L_q (Q_ld 1 rfl rfl rfl rfl) rfl rfl rfl ?_
          | refine L_q (Q_ld 2 rfl rfl rfl rfl) rfl rfl rfl ?_
          | refine L_q (Q_ld 3 rfl rfl rfl rfl) rfl rfl rfl ?_
          | refine L_q (Q_ld 4 rfl rfl rfl rfl) rfl rfl rfl ?_
        refine L_q (Q_and rfl rfl (and_255 d.by')) rfl rfl rfl ?_
        refine L_q ((Q_eql rfl rfl).as (v' := .bool true) (congrArg Value.bool (decide_eq_true hz2))) rfl rfl rfl ?_
        first
          | refine L_q (Q_pickT rfl rfl) rfl rfl rfl ?_
          | refine L_q (Q_pickF rfl rfl) rfl rfl rfl ?_
          | refine L_q (Q_pickB rfl rfl rfl) rfl rfl rfl ?_
        refine L_q (Q_move rfl) rfl rfl rfl ?_
        refine L_n rfl rfl rfl ?_
        refine L_n rfl rfl rfl ?_
        refine L_n rfl rfl rfl ?_
        first
          | refine L_q (Q_pickT rfl rfl) rfl rfl rfl ?_
          | refine L_q (Q_pickF rfl rfl) rfl rfl rfl ?_
          | refine L_q (Q_pickB rfl rfl rfl) rfl rfl rfl ?_
        refine JL_nil ?_
        repeat first
          | refine J_seq ?_
          | refine seqQ_normal ?_
          | refine J_condT rfl ?_
          | refine J_condF rfl ?_
          | refine J_block ?_
          | refine blockQ_normal ?_
          | refine J_exit ?_
          | refine seqQ_exit ?_
          | refine blockQ_hit ?_
          | refine blockQ_miss rfl ?_
          | refine J_skip ?_
          | refine J_ret ?_
          | refine seqQ_ret ?_
          | refine blockQ_ret ?_
          | refine loopQ_exit ?_
          | refine loopQ_ret ?_
          | refine J_label ?_
        repeat first
          | refine J_seq ?_
          | refine seqQ_normal ?_
          | refine J_condT rfl ?_
          | refine J_condF rfl ?_
          | refine J_block ?_
          | refine blockQ_normal ?_
          | refine J_exit ?_
          | refine seqQ_exit ?_
          | refine blockQ_hit ?_
          | refine blockQ_miss rfl ?_
          | refine J_skip ?_
          | refine J_ret ?_
          | refine seqQ_ret ?_
          | refine blockQ_ret ?_
          | refine loopQ_exit ?_
          | refine loopQ_ret ?_
          | refine J_label ?_
        refine J_region ?_
        refine L_q (Q_move rfl) rfl rfl rfl ?_
        refine L_q (Q_move rfl) rfl rfl rfl ?_
        refine L_q ((Q_seql rfl rfl).as (v' := .bool true) (congrArg Value.bool (decide_eq_true rfl))) rfl rfl rfl ?_
        refine L_q (Q_move rfl) rfl rfl rfl ?_
        refine L_q (Q_move rfl) rfl rfl rfl ?_
        refine L_q ((Q_eql rfl rfl).as (v' := .bool true) rfl) rfl rfl rfl ?_
        first
          | refine L_q (Q_pickT rfl rfl) rfl rfl rfl ?_
          | refine L_q (Q_pickF rfl rfl) rfl rfl rfl ?_
          | refine L_q (Q_pickB rfl rfl rfl) rfl rfl rfl ?_
        refine L_q (Q_move rfl) rfl rfl rfl ?_
        refine L_o rfl rfl rfl (O_call [] [0,1,2,3,4] (awake_ok E) rfl rfl ?_)
        rintro _ _ ⟨rfl, rfl⟩
        refine JL.norm ?_
        first
          | refine L_q (Q_pickT rfl rfl) rfl rfl rfl ?_
          | refine L_q (Q_pickF rfl rfl) rfl rfl rfl ?_
          | refine L_q (Q_pickB rfl rfl rfl) rfl rfl rfl ?_
        refine L_q (Q_assign rfl) rfl rfl rfl ?_
        refine JL_nil ?_
        repeat first
          | refine J_seq ?_
          | refine seqQ_normal ?_
          | refine J_condT rfl ?_
          | refine J_condF rfl ?_
          | refine J_block ?_
          | refine blockQ_normal ?_
          | refine J_exit ?_
          | refine seqQ_exit ?_
          | refine blockQ_hit ?_
          | refine blockQ_miss rfl ?_
          | refine J_skip ?_
          | refine J_ret ?_
          | refine seqQ_ret ?_
          | refine blockQ_ret ?_
          | refine loopQ_exit ?_
          | refine loopQ_ret ?_
          | refine J_label ?_
        exact retQ_ret _ [] (.cons (RV_tmp rfl) .nil) ⟨rfl, rfl⟩ (Ent.re [4] rfl)
      · have hz2 : ¬ ((by8 d.by').toNat : Int) = 0 := fun h => hz (UInt8.toNat_inj.1 (by simpa using h))
        have hs : d.slot = 0 := by rcases hc with h | h | h; cases h; exact absurd h hz; exact h
        repeat first
          | refine J_seq ?_
          | refine seqQ_normal ?_
          | refine J_condT rfl ?_
          | refine J_condF rfl ?_
          | refine J_block ?_
          | refine blockQ_normal ?_
          | refine J_exit ?_
          | refine seqQ_exit ?_
          | refine blockQ_hit ?_
          | refine blockQ_miss rfl ?_
          | refine J_skip ?_
          | refine J_ret ?_
          | refine seqQ_ret ?_
          | refine blockQ_ret ?_
          | refine loopQ_exit ?_
          | refine loopQ_ret ?_
          | refine J_label ?_
        refine J_region ?_
        refine L_q (Q_move rfl) rfl rfl rfl ?_
        first
          | refine L_q (Q_notD rfl) rfl rfl rfl ?_
          | refine L_q (Q_not rfl) rfl rfl rfl ?_
        refine L_q (Q_move rfl) rfl rfl rfl ?_
        first
          | refine L_q (Q_fa0 rfl) rfl rfl rfl ?_
          | refine L_q (Q_fa rfl rfl) rfl rfl rfl ?_
          | refine L_q (Q_pfa rfl) rfl rfl rfl ?_
        first
          | refine L_q (Q_ld 0 rfl rfl rfl rfl) rfl rfl rfl ?_
          | refine L_q (Q_ld 1 rfl rfl rfl rfl) rfl rfl rfl ?_
          | refine L_q (Q_ld 2 rfl rfl rfl rfl) rfl rfl rfl ?_
          | refine L_q (Q_ld 3 rfl rfl rfl rfl) rfl rfl rfl ?_
          | refine L_q (Q_ld 4 rfl rfl rfl rfl) rfl rfl rfl ?_
        refine L_q (Q_and rfl rfl (and_255 d.by')) rfl rfl rfl ?_
        refine L_q ((Q_eql rfl rfl).as (v' := .bool false) (congrArg Value.bool (decide_eq_false hz2))) rfl rfl rfl ?_
        first
          | refine L_q (Q_pickT rfl rfl) rfl rfl rfl ?_
          | refine L_q (Q_pickF rfl rfl) rfl rfl rfl ?_
          | refine L_q (Q_pickB rfl rfl rfl) rfl rfl rfl ?_
        refine L_q (Q_move rfl) rfl rfl rfl ?_
        first
          | refine L_q (Q_fa0 rfl) rfl rfl rfl ?_
          | refine L_q (Q_fa rfl rfl) rfl rfl rfl ?_
          | refine L_q (Q_pfa rfl) rfl rfl rfl ?_
        first
          | refine L_q (Q_ld 0 rfl rfl rfl rfl) rfl rfl rfl ?_
          | refine L_q (Q_ld 1 rfl rfl rfl rfl) rfl rfl rfl ?_
          | refine L_q (Q_ld 2 rfl rfl rfl rfl) rfl rfl rfl ?_
          | refine L_q (Q_ld 3 rfl rfl rfl rfl) rfl rfl rfl ?_
          | refine L_q (Q_ld 4 rfl rfl rfl rfl) rfl rfl rfl ?_
        refine L_q ((Q_eql rfl rfl).as (v' := .bool true) (congrArg Value.bool (decide_eq_true hs))) rfl rfl rfl ?_
        first
          | refine L_q (Q_pickT rfl rfl) rfl rfl rfl ?_
          | refine L_q (Q_pickF rfl rfl) rfl rfl rfl ?_
          | refine L_q (Q_pickB rfl rfl rfl) rfl rfl rfl ?_
        refine JL_nil ?_
        repeat first
          | refine J_seq ?_
          | refine seqQ_normal ?_
          | refine J_condT rfl ?_
          | refine J_condF rfl ?_
          | refine J_block ?_
          | refine blockQ_normal ?_
          | refine J_exit ?_
          | refine seqQ_exit ?_
          | refine blockQ_hit ?_
          | refine blockQ_miss rfl ?_
          | refine J_skip ?_
          | refine J_ret ?_
          | refine seqQ_ret ?_
          | refine blockQ_ret ?_
          | refine loopQ_exit ?_
          | refine loopQ_ret ?_
          | refine J_label ?_
        repeat first
          | refine J_seq ?_
          | refine seqQ_normal ?_
          | refine J_condT rfl ?_
          | refine J_condF rfl ?_
          | refine J_block ?_
          | refine blockQ_normal ?_
          | refine J_exit ?_
          | refine seqQ_exit ?_
          | refine blockQ_hit ?_
          | refine blockQ_miss rfl ?_
          | refine J_skip ?_
          | refine J_ret ?_
          | refine seqQ_ret ?_
          | refine blockQ_ret ?_
          | refine loopQ_exit ?_
          | refine loopQ_ret ?_
          | refine J_label ?_
        refine J_region ?_
        refine L_q (Q_move rfl) rfl rfl rfl ?_
        refine L_q (Q_move rfl) rfl rfl rfl ?_
        refine L_q ((Q_seql rfl rfl).as (v' := .bool true) (congrArg Value.bool (decide_eq_true rfl))) rfl rfl rfl ?_
        refine L_q (Q_move rfl) rfl rfl rfl ?_
        refine L_q (Q_move rfl) rfl rfl rfl ?_
        refine L_q ((Q_eql rfl rfl).as (v' := .bool true) rfl) rfl rfl rfl ?_
        first
          | refine L_q (Q_pickT rfl rfl) rfl rfl rfl ?_
          | refine L_q (Q_pickF rfl rfl) rfl rfl rfl ?_
          | refine L_q (Q_pickB rfl rfl rfl) rfl rfl rfl ?_
        refine L_q (Q_move rfl) rfl rfl rfl ?_
        refine L_o rfl rfl rfl (O_call [] [0,1,2,3,4] (awake_ok E) rfl rfl ?_)
        rintro _ _ ⟨rfl, rfl⟩
        refine JL.norm ?_
        first
          | refine L_q (Q_pickT rfl rfl) rfl rfl rfl ?_
          | refine L_q (Q_pickF rfl rfl) rfl rfl rfl ?_
          | refine L_q (Q_pickB rfl rfl rfl) rfl rfl rfl ?_
        refine L_q (Q_assign rfl) rfl rfl rfl ?_
        refine JL_nil ?_
        repeat first
          | refine J_seq ?_
          | refine seqQ_normal ?_
          | refine J_condT rfl ?_
          | refine J_condF rfl ?_
          | refine J_block ?_
          | refine blockQ_normal ?_
          | refine J_exit ?_
          | refine seqQ_exit ?_
          | refine blockQ_hit ?_
          | refine blockQ_miss rfl ?_
          | refine J_skip ?_
          | refine J_ret ?_
          | refine seqQ_ret ?_
          | refine blockQ_ret ?_
          | refine loopQ_exit ?_
          | refine loopQ_ret ?_
          | refine J_label ?_
        exact retQ_ret _ [] (.cons (RV_tmp rfl) .nil) ⟨rfl, rfl⟩ (Ent.re [4] rfl)
  · have hz : ¬ by8 d.by' = 0 := fun h => hc (.inr (.inl h))
    have hs : ¬ d.slot = 0 := fun h => hc (.inr (.inr h))
    have hz2 : ¬ ((by8 d.by').toNat : Int) = 0 := fun h => hz (UInt8.toNat_inj.1 (by simpa using h))
    obtain rfl : ok = true := by cases ok; exact absurd (.inl rfl) hc; rfl
    obtain ⟨q1, q2⟩ := ha1 rfl hz hs
    rw [q1, q2] at ld
    repeat first
      | refine J_seq ?_
      | refine seqQ_normal ?_
      | refine J_condT rfl ?_
      | refine J_condF rfl ?_
      | refine J_block ?_
      | refine blockQ_normal ?_
      | refine J_exit ?_
      | refine seqQ_exit ?_
      | refine blockQ_hit ?_
      | refine blockQ_miss rfl ?_
      | refine J_skip ?_
      | refine J_ret ?_
      | refine seqQ_ret ?_
      | refine blockQ_ret ?_
      | refine loopQ_exit ?_
      | refine loopQ_ret ?_
      | refine J_label ?_
    refine J_region ?_
    refine L_q (Q_move rfl) rfl rfl rfl ?_
    refine L_o rfl rfl rfl (O_call [0,1,2] [3,4] (ld p S2 T2) rfl rfl ?_)
    rintro _ _ ⟨rfl, rfl⟩
    refine JL.norm ?_
    refine L_q (Q_move rfl) rfl rfl rfl ?_
    refine L_q (Q_extract (v := str a) rfl rfl) rfl rfl rfl ?_
    refine L_q (Q_extract (v := .int .i64 1) rfl rfl) rfl rfl rfl ?_
    refine L_q (Q_assign rfl) rfl rfl rfl ?_
    refine L_q (Q_assign rfl) rfl rfl rfl ?_
    refine JL_nil ?_
    repeat first
      | refine J_seq ?_
      | refine seqQ_normal ?_
      | refine J_condT rfl ?_
      | refine J_condF rfl ?_
      | refine J_block ?_
      | refine blockQ_normal ?_
      | refine J_exit ?_
      | refine seqQ_exit ?_
      | refine blockQ_hit ?_
      | refine blockQ_miss rfl ?_
      | refine J_skip ?_
      | refine J_ret ?_
      | refine seqQ_ret ?_
      | refine blockQ_ret ?_
      | refine loopQ_exit ?_
      | refine loopQ_ret ?_
      | refine J_label ?_
    repeat first
      | refine J_seq ?_
      | refine seqQ_normal ?_
      | refine J_condT rfl ?_
      | refine J_condF rfl ?_
      | refine J_block ?_
      | refine blockQ_normal ?_
      | refine J_exit ?_
      | refine seqQ_exit ?_
      | refine blockQ_hit ?_
      | refine blockQ_miss rfl ?_
      | refine J_skip ?_
      | refine J_ret ?_
      | refine seqQ_ret ?_
      | refine blockQ_ret ?_
      | refine loopQ_exit ?_
      | refine loopQ_ret ?_
      | refine J_label ?_
    refine J_region ?_
    refine L_q (Q_move rfl) rfl rfl rfl ?_
    first
      | refine L_q (Q_notD rfl) rfl rfl rfl ?_
      | refine L_q (Q_not rfl) rfl rfl rfl ?_
    refine L_q (Q_move rfl) rfl rfl rfl ?_
    first
      | refine L_q (Q_fa0 rfl) rfl rfl rfl ?_
      | refine L_q (Q_fa rfl rfl) rfl rfl rfl ?_
      | refine L_q (Q_pfa rfl) rfl rfl rfl ?_
    first
      | refine L_q (Q_ld 0 rfl rfl rfl rfl) rfl rfl rfl ?_
      | refine L_q (Q_ld 1 rfl rfl rfl rfl) rfl rfl rfl ?_
      | refine L_q (Q_ld 2 rfl rfl rfl rfl) rfl rfl rfl ?_
      | refine L_q (Q_ld 3 rfl rfl rfl rfl) rfl rfl rfl ?_
      | refine L_q (Q_ld 4 rfl rfl rfl rfl) rfl rfl rfl ?_
    refine L_q (Q_and rfl rfl (and_255 d.by')) rfl rfl rfl ?_
    refine L_q ((Q_eql rfl rfl).as (v' := .bool false) (congrArg Value.bool (decide_eq_false hz2))) rfl rfl rfl ?_
    first
      | refine L_q (Q_pickT rfl rfl) rfl rfl rfl ?_
      | refine L_q (Q_pickF rfl rfl) rfl rfl rfl ?_
      | refine L_q (Q_pickB rfl rfl rfl) rfl rfl rfl ?_
    refine L_q (Q_move rfl) rfl rfl rfl ?_
    first
      | refine L_q (Q_fa0 rfl) rfl rfl rfl ?_
      | refine L_q (Q_fa rfl rfl) rfl rfl rfl ?_
      | refine L_q (Q_pfa rfl) rfl rfl rfl ?_
    first
      | refine L_q (Q_ld 0 rfl rfl rfl rfl) rfl rfl rfl ?_
      | refine L_q (Q_ld 1 rfl rfl rfl rfl) rfl rfl rfl ?_
      | refine L_q (Q_ld 2 rfl rfl rfl rfl) rfl rfl rfl ?_
      | refine L_q (Q_ld 3 rfl rfl rfl rfl) rfl rfl rfl ?_
      | refine L_q (Q_ld 4 rfl rfl rfl rfl) rfl rfl rfl ?_
    refine L_q ((Q_eql rfl rfl).as (v' := .bool false) (congrArg Value.bool (decide_eq_false hs))) rfl rfl rfl ?_
    first
      | refine L_q (Q_pickT rfl rfl) rfl rfl rfl ?_
      | refine L_q (Q_pickF rfl rfl) rfl rfl rfl ?_
      | refine L_q (Q_pickB rfl rfl rfl) rfl rfl rfl ?_
    refine JL_nil ?_
    repeat first
      | refine J_seq ?_
      | refine seqQ_normal ?_
      | refine J_condT rfl ?_
      | refine J_condF rfl ?_
      | refine J_block ?_
      | refine blockQ_normal ?_
      | refine J_exit ?_
      | refine seqQ_exit ?_
      | refine blockQ_hit ?_
      | refine blockQ_miss rfl ?_
      | refine J_skip ?_
      | refine J_ret ?_
      | refine seqQ_ret ?_
      | refine blockQ_ret ?_
      | refine loopQ_exit ?_
      | refine loopQ_ret ?_
      | refine J_label ?_
    repeat first
      | refine J_seq ?_
      | refine seqQ_normal ?_
      | refine J_condT rfl ?_
      | refine J_condF rfl ?_
      | refine J_block ?_
      | refine blockQ_normal ?_
      | refine J_exit ?_
      | refine seqQ_exit ?_
      | refine blockQ_hit ?_
      | refine blockQ_miss rfl ?_
      | refine J_skip ?_
      | refine J_ret ?_
      | refine seqQ_ret ?_
      | refine blockQ_ret ?_
      | refine loopQ_exit ?_
      | refine loopQ_ret ?_
      | refine J_label ?_
    refine J_region ?_
    refine L_q (Q_move rfl) rfl rfl rfl ?_
    refine L_q (Q_move rfl) rfl rfl rfl ?_
    refine L_q ((Q_seql rfl rfl).as (v' := .bool true) (congrArg Value.bool (decide_eq_true rfl))) rfl rfl rfl ?_
    refine L_q (Q_move rfl) rfl rfl rfl ?_
    refine L_q (Q_move rfl) rfl rfl rfl ?_
    refine L_q ((Q_eql rfl rfl).as (v' := .bool true) rfl) rfl rfl rfl ?_
    first
      | refine L_q (Q_pickT rfl rfl) rfl rfl rfl ?_
      | refine L_q (Q_pickF rfl rfl) rfl rfl rfl ?_
      | refine L_q (Q_pickB rfl rfl rfl) rfl rfl rfl ?_
    refine L_q (Q_move rfl) rfl rfl rfl ?_
    refine L_o rfl rfl rfl (O_call [] [0,1,2,3,4] (awake_ok E) rfl rfl ?_)
    rintro _ _ ⟨rfl, rfl⟩
    refine JL.norm ?_
    first
      | refine L_q (Q_pickT rfl rfl) rfl rfl rfl ?_
      | refine L_q (Q_pickF rfl rfl) rfl rfl rfl ?_
      | refine L_q (Q_pickB rfl rfl rfl) rfl rfl rfl ?_
    refine L_q (Q_assign rfl) rfl rfl rfl ?_
    refine JL_nil ?_
    repeat first
      | refine J_seq ?_
      | refine seqQ_normal ?_
      | refine J_condT rfl ?_
      | refine J_condF rfl ?_
      | refine J_block ?_
      | refine blockQ_normal ?_
      | refine J_exit ?_
      | refine seqQ_exit ?_
      | refine blockQ_hit ?_
      | refine blockQ_miss rfl ?_
      | refine J_skip ?_
      | refine J_ret ?_
      | refine seqQ_ret ?_
      | refine blockQ_ret ?_
      | refine loopQ_exit ?_
      | refine loopQ_ret ?_
      | refine J_label ?_
    exact retQ_ret _ [] (.cons (RV_tmp rfl) .nil) ⟨rfl, rfl⟩ (Ent.re [4] rfl)
end Go.Proofs
