/- The document's slots, walked. -/
import Derived.Test.YtjpkeibhimimpaaRef37b
import Derived.Test.YtjpkeibhimimpaaSnapP
set_option autoImplicit false
namespace Go.Proofs
open Go.SL
attribute [local irreducible] J JL QOp JOp seqQ blockQ loopQ retQ slc cel hex star pur stars Does RV Ent pAt
theorem rright_ok (E : World) (l : List UInt8) (hl2 : l.length ≤ 100000) : Does Try.prog E 39 [str l] [] fun v L => v = .bool (rightB l) ∧ L = [] := by
  refine Does.of Try.func39 rfl Try.ntmps39 rfl rfl fun F => ?_
  refine J.norm ?_
  repeat first
    | refine J_seq ?_
    | refine seqQ_normal ?_
    | refine J_condT rfl ?_
    | refine J_condF rfl ?_
    | refine J_block ?_
    | refine blockQ_normal ?_
    | refine J_exit ?_
    | refine seqQ_exit ?_
    | refine blockQ_hit ?_
    | refine blockQ_miss rfl ?_
    | refine J_skip ?_
    | refine J_ret ?_
    | refine seqQ_ret ?_
    | refine blockQ_ret ?_
    | refine loopQ_exit ?_
    | refine loopQ_ret ?_
    | refine J_label ?_
  refine J_region ?_
  refine L_q (Q_assign rfl) rfl rfl rfl ?_
  refine JL_nil ?_
  repeat first
    | refine J_seq ?_
    | refine seqQ_normal ?_
    | refine J_condT rfl ?_
    | refine J_condF rfl ?_
    | refine J_block ?_
    | refine blockQ_normal ?_
    | refine J_exit ?_
    | refine seqQ_exit ?_
    | refine blockQ_hit ?_
    | refine blockQ_miss rfl ?_
    | refine J_skip ?_
    | refine J_ret ?_
    | refine seqQ_ret ?_
    | refine blockQ_ret ?_
    | refine loopQ_exit ?_
    | refine loopQ_ret ?_
    | refine J_label ?_
  by_cases hl : 12 ≤ l.length
  · have hq : IntKind.i64.wrap ((l.length : Int) - 12) = ((l.length - 12 : Nat) : Int) := by
      rw [show (l.length : Int) - 12 = ((l.length - 12 : Nat) : Int) by omega]; exact IntWalk.i64_in _ (by omega)
    have hn := rnumber_ok E (l.drop 8) (by rw [List.length_drop]; omega)
    have hn0 := rnumber_ok E l (by omega)
    have e2 : be ((l.drop 8).take 4) = nw l 2 := rfl
    have e0 : be (l.take 4) = nw l 0 := rfl
    rw [e2] at hn
    rw [e0] at hn0
    have h2 := nw_lt l 2
    have c : (l.length - 12) % 2 ^ 32 = l.length - 12 := Nat.mod_eq_of_lt (by omega)
    have cv : Value.int .u64 ((nw l 2 % 2 ^ IntKind.u64.bits : Nat) : Int) = .int .u64 (nw l 2 : Int) := by rw [show IntKind.u64.bits = 64 from rfl, Nat.mod_eq_of_lt (by omega)]
    have cw : Value.int .u64 (((l.length - 12) % 2 ^ IntKind.u64.bits : Nat) : Int) = .int .u64 ((l.length - 12 : Nat) : Int) := by rw [show IntKind.u64.bits = 64 from rfl, Nat.mod_eq_of_lt (by omega)]
    by_cases h3 : nw l 2 = l.length - 12
    · have e : rightB l = decide (((nw l 0 : Nat) : Int) = ((crc (l.drop 4) : Nat) : Int)) := by
        simp only [rightB, hl, c, h3, decide_true, Bool.true_and, Bool.and_true]
        by_cases h4 : nw l 0 = crc (l.drop 4) <;> simp [h4] <;> omega
      rw [e]
      repeat first
        | refine J_seq ?_
        | refine seqQ_normal ?_
        | refine J_condT rfl ?_
        | refine J_condF rfl ?_
        | refine J_block ?_
        | refine blockQ_normal ?_
        | refine J_exit ?_
        | refine seqQ_exit ?_
        | refine blockQ_hit ?_
        | refine blockQ_miss rfl ?_
        | refine J_skip ?_
        | refine J_ret ?_
        | refine seqQ_ret ?_
        | refine blockQ_ret ?_
        | refine loopQ_exit ?_
        | refine loopQ_ret ?_
        | refine J_label ?_
      refine J_drawL [0, 1, 2, 3, 4, 5, 7, 8, 9, 10, 11, 12, 13, 14, 15, 17, 18, 20, 21, 22] (.quiet 0 (.quiet 1 (.quiet 2 (.quiet 3 (.quiet 4 (.quiet 5 (.quiet 8 (.quiet 9 (.quiet 10 (.quiet 11 (.loud 6 (.quiet 7 (.quiet 12 (.quiet 13 (.quiet 14 (.quiet 15 (.quiet 17 (.quiet 18 (.loud 16 (.loud 19 (.quiet 20 (.quiet 21 (.quiet 22 .done))))))))))))))))))))))) Try.mixed (by kernel_rfl) (by kernel_rfl) (by repeat (first | exact retQ_noP | refine seqQ_noP ?_ | refine blockQ_noP ?_ | refine loopQ_noP ?_)) ?_
      refine S_q (Ent.refl _) rfl (Q_move rfl) rfl rfl rfl ?_
      refine S_q (Ent.refl _) rfl (Q_slen rfl) rfl rfl rfl ?_
      refine S_q (Ent.refl _) rfl ((Q_geq rfl rfl).as (v' := .bool true) (congrArg Value.bool (decide_eq_true (by omega)))) rfl rfl rfl ?_
      refine S_q (Ent.refl _) rfl (Q_move rfl) rfl rfl rfl ?_
      refine S_q (Ent.refl _) rfl (Q_move rfl) rfl rfl rfl ?_
      refine S_q (Ent.refl _) rfl (Q_ssL 8 rfl rfl rfl (by omega)) rfl rfl rfl ?_
      refine S_q (Ent.refl _) rfl (Q_move rfl) rfl rfl rfl ?_
      refine S_q (Ent.refl _) rfl (Q_slen rfl) rfl rfl rfl ?_
      refine S_q (Ent.refl _) rfl (Q_sub rfl rfl hq) rfl rfl rfl ?_
      refine S_q (Ent.refl _) rfl ((Q_cvtN (l.length - 12) rfl rfl).as cw) rfl rfl rfl ?_
      refine S_o rfl rfl rfl rfl (O_call [] [0] hn rfl rfl ?_)
      (rintro _ _ ⟨rfl, rfl⟩; refine ⟨_, fun _ => ⟨Ent.nrm, Ent.refl _⟩, ?_⟩)
      refine JS.norm ?_
      refine S_q (Ent.refl _) rfl ((Q_cvtN (nw l 2) rfl rfl).as cv) rfl rfl rfl ?_
      refine S_q (Ent.refl _) rfl ((Q_eql rfl rfl).as (v' := .bool true) (congrArg Value.bool (decide_eq_true (by rw [h3])))) rfl rfl rfl ?_
      first
        | refine S_q (Ent.refl _) rfl (Q_pickT rfl rfl) rfl rfl rfl ?_
        | refine S_q (Ent.refl _) rfl (Q_pickF rfl rfl) rfl rfl rfl ?_
        | refine S_q (Ent.refl _) rfl (Q_pickB rfl rfl rfl) rfl rfl rfl ?_
      refine S_q (Ent.refl _) rfl (Q_move rfl) rfl rfl rfl ?_
      refine S_q (Ent.refl _) rfl (Q_move rfl) rfl rfl rfl ?_
      refine S_q (Ent.refl _) rfl (Q_move rfl) rfl rfl rfl ?_
      refine S_q (Ent.refl _) rfl (Q_ssL 4 rfl rfl rfl (by omega)) rfl rfl rfl ?_
      refine S_o rfl rfl rfl rfl (O_call [] [0] hn0 rfl rfl ?_)
      (rintro _ _ ⟨rfl, rfl⟩; refine ⟨_, fun _ => ⟨Ent.nrm, Ent.refl _⟩, ?_⟩)
      refine JS.norm ?_
      refine S_o rfl rfl rfl rfl (O_call [] [0] (rsum_ok E (l.drop 4) (by rw [List.length_drop]; omega)) rfl rfl ?_)
      (rintro _ _ ⟨rfl, rfl⟩; refine ⟨_, fun _ => ⟨Ent.nrm, Ent.refl _⟩, ?_⟩)
      refine JS.norm ?_
      refine S_q (Ent.refl _) rfl (Q_eql rfl rfl) rfl rfl rfl ?_
      first
        | refine S_q (Ent.refl _) rfl (Q_pickT rfl rfl) rfl rfl rfl ?_
        | refine S_q (Ent.refl _) rfl (Q_pickF rfl rfl) rfl rfl rfl ?_
        | refine S_q (Ent.refl _) rfl (Q_pickB rfl rfl rfl) rfl rfl rfl ?_
      refine S_q (Ent.refl _) rfl (Q_assign rfl) rfl rfl rfl ?_
      refine S_nil ?_
      repeat first
        | refine J_seq ?_
        | refine seqQ_normal ?_
        | refine J_condT rfl ?_
        | refine J_condF rfl ?_
        | refine J_block ?_
        | refine blockQ_normal ?_
        | refine J_exit ?_
        | refine seqQ_exit ?_
        | refine blockQ_hit ?_
        | refine blockQ_miss rfl ?_
        | refine J_skip ?_
        | refine J_ret ?_
        | refine seqQ_ret ?_
        | refine blockQ_ret ?_
        | refine loopQ_exit ?_
        | refine loopQ_ret ?_
        | refine J_label ?_
      exact retQ_ret _ [] (.cons (RV_tmp rfl) .nil) ⟨rfl, rfl⟩ (Ent.refl _)
    · have e : rightB l = false := by simp [rightB, hl, c, h3]
      rw [e]
      repeat first
        | refine J_seq ?_
        | refine seqQ_normal ?_
        | refine J_condT rfl ?_
        | refine J_condF rfl ?_
        | refine J_block ?_
        | refine blockQ_normal ?_
        | refine J_exit ?_
        | refine seqQ_exit ?_
        | refine blockQ_hit ?_
        | refine blockQ_miss rfl ?_
        | refine J_skip ?_
        | refine J_ret ?_
        | refine seqQ_ret ?_
        | refine blockQ_ret ?_
        | refine loopQ_exit ?_
        | refine loopQ_ret ?_
        | refine J_label ?_
      refine J_drawL [0, 1, 2, 3, 4, 5, 7, 8, 9, 10, 11, 12, 13, 14, 15, 17, 18, 20, 21, 22] (.quiet 0 (.quiet 1 (.quiet 2 (.quiet 3 (.quiet 4 (.quiet 5 (.quiet 8 (.quiet 9 (.quiet 10 (.quiet 11 (.loud 6 (.quiet 7 (.quiet 12 (.quiet 13 (.quiet 14 (.quiet 15 (.quiet 17 (.quiet 18 (.loud 16 (.loud 19 (.quiet 20 (.quiet 21 (.quiet 22 .done))))))))))))))))))))))) Try.mixed (by kernel_rfl) (by kernel_rfl) (by repeat (first | exact retQ_noP | refine seqQ_noP ?_ | refine blockQ_noP ?_ | refine loopQ_noP ?_)) ?_
      refine S_q (Ent.refl _) rfl (Q_move rfl) rfl rfl rfl ?_
      refine S_q (Ent.refl _) rfl (Q_slen rfl) rfl rfl rfl ?_
      refine S_q (Ent.refl _) rfl ((Q_geq rfl rfl).as (v' := .bool true) (congrArg Value.bool (decide_eq_true (by omega)))) rfl rfl rfl ?_
      refine S_q (Ent.refl _) rfl (Q_move rfl) rfl rfl rfl ?_
      refine S_q (Ent.refl _) rfl (Q_move rfl) rfl rfl rfl ?_
      refine S_q (Ent.refl _) rfl (Q_ssL 8 rfl rfl rfl (by omega)) rfl rfl rfl ?_
      refine S_q (Ent.refl _) rfl (Q_move rfl) rfl rfl rfl ?_
      refine S_q (Ent.refl _) rfl (Q_slen rfl) rfl rfl rfl ?_
      refine S_q (Ent.refl _) rfl (Q_sub rfl rfl hq) rfl rfl rfl ?_
      refine S_q (Ent.refl _) rfl ((Q_cvtN (l.length - 12) rfl rfl).as cw) rfl rfl rfl ?_
      refine S_o rfl rfl rfl rfl (O_call [] [0] hn rfl rfl ?_)
      (rintro _ _ ⟨rfl, rfl⟩; refine ⟨_, fun _ => ⟨Ent.nrm, Ent.refl _⟩, ?_⟩)
      refine JS.norm ?_
      refine S_q (Ent.refl _) rfl ((Q_cvtN (nw l 2) rfl rfl).as cv) rfl rfl rfl ?_
      refine S_q (Ent.refl _) rfl ((Q_eql rfl rfl).as (v' := .bool false) (congrArg Value.bool (decide_eq_false (by omega)))) rfl rfl rfl ?_
      first
        | refine S_q (Ent.refl _) rfl (Q_pickT rfl rfl) rfl rfl rfl ?_
        | refine S_q (Ent.refl _) rfl (Q_pickF rfl rfl) rfl rfl rfl ?_
        | refine S_q (Ent.refl _) rfl (Q_pickB rfl rfl rfl) rfl rfl rfl ?_
      refine S_q (Ent.refl _) rfl (Q_move rfl) rfl rfl rfl ?_
      refine S_n (Ent.refl _) rfl rfl rfl rfl ?_
      refine S_n (Ent.refl _) rfl rfl rfl rfl ?_
      refine S_n (Ent.refl _) rfl rfl rfl rfl ?_
      refine S_no rfl rfl rfl rfl (fun _ => (Ent.refl _)) ?_
      refine S_no rfl rfl rfl rfl (fun _ => (Ent.refl _)) ?_
      refine S_n (Ent.refl _) rfl rfl rfl rfl ?_
      first
        | refine S_q (Ent.refl _) rfl (Q_pickT rfl rfl) rfl rfl rfl ?_
        | refine S_q (Ent.refl _) rfl (Q_pickF rfl rfl) rfl rfl rfl ?_
        | refine S_q (Ent.refl _) rfl (Q_pickB rfl rfl rfl) rfl rfl rfl ?_
      refine S_q (Ent.refl _) rfl (Q_assign rfl) rfl rfl rfl ?_
      refine S_nil ?_
      repeat first
        | refine J_seq ?_
        | refine seqQ_normal ?_
        | refine J_condT rfl ?_
        | refine J_condF rfl ?_
        | refine J_block ?_
        | refine blockQ_normal ?_
        | refine J_exit ?_
        | refine seqQ_exit ?_
        | refine blockQ_hit ?_
        | refine blockQ_miss rfl ?_
        | refine J_skip ?_
        | refine J_ret ?_
        | refine seqQ_ret ?_
        | refine blockQ_ret ?_
        | refine loopQ_exit ?_
        | refine loopQ_ret ?_
        | refine J_label ?_
      exact retQ_ret _ [] (.cons (RV_tmp rfl) .nil) ⟨rfl, rfl⟩ (Ent.refl _)
  · have e : rightB l = false := by simp [rightB, hl]
    rw [e]
    repeat first
      | refine J_seq ?_
      | refine seqQ_normal ?_
      | refine J_condT rfl ?_
      | refine J_condF rfl ?_
      | refine J_block ?_
      | refine blockQ_normal ?_
      | refine J_exit ?_
      | refine seqQ_exit ?_
      | refine blockQ_hit ?_
      | refine blockQ_miss rfl ?_
      | refine J_skip ?_
      | refine J_ret ?_
      | refine seqQ_ret ?_
      | refine blockQ_ret ?_
      | refine loopQ_exit ?_
      | refine loopQ_ret ?_
      | refine J_label ?_
    refine J_drawL [0, 1, 2, 3, 4, 5, 7, 8, 9, 10, 11, 12, 13, 14, 15, 17, 18, 20, 21, 22] (.quiet 0 (.quiet 1 (.quiet 2 (.quiet 3 (.quiet 4 (.quiet 5 (.quiet 8 (.quiet 9 (.quiet 10 (.quiet 11 (.loud 6 (.quiet 7 (.quiet 12 (.quiet 13 (.quiet 14 (.quiet 15 (.quiet 17 (.quiet 18 (.loud 16 (.loud 19 (.quiet 20 (.quiet 21 (.quiet 22 .done))))))))))))))))))))))) Try.mixed (by kernel_rfl) (by kernel_rfl) (by repeat (first | exact retQ_noP | refine seqQ_noP ?_ | refine blockQ_noP ?_ | refine loopQ_noP ?_)) ?_
    refine S_q (Ent.refl _) rfl (Q_move rfl) rfl rfl rfl ?_
    refine S_q (Ent.refl _) rfl (Q_slen rfl) rfl rfl rfl ?_
    refine S_q (Ent.refl _) rfl ((Q_geq rfl rfl).as (v' := .bool false) (congrArg Value.bool (decide_eq_false (by omega)))) rfl rfl rfl ?_
    refine S_q (Ent.refl _) rfl (Q_move rfl) rfl rfl rfl ?_
    refine S_n (Ent.refl _) rfl rfl rfl rfl ?_
    refine S_n (Ent.refl _) rfl rfl rfl rfl ?_
    refine S_n (Ent.refl _) rfl rfl rfl rfl ?_
    refine S_n (Ent.refl _) rfl rfl rfl rfl ?_
    refine S_n (Ent.refl _) rfl rfl rfl rfl ?_
    refine S_n (Ent.refl _) rfl rfl rfl rfl ?_
    refine S_no rfl rfl rfl rfl (fun _ => (Ent.refl _)) ?_
    refine S_n (Ent.refl _) rfl rfl rfl rfl ?_
    refine S_n (Ent.refl _) rfl rfl rfl rfl ?_
    first
      | refine S_q (Ent.refl _) rfl (Q_pickT rfl rfl) rfl rfl rfl ?_
      | refine S_q (Ent.refl _) rfl (Q_pickF rfl rfl) rfl rfl rfl ?_
      | refine S_q (Ent.refl _) rfl (Q_pickB rfl rfl rfl) rfl rfl rfl ?_
    refine S_q (Ent.refl _) rfl (Q_move rfl) rfl rfl rfl ?_
    refine S_n (Ent.refl _) rfl rfl rfl rfl ?_
    refine S_n (Ent.refl _) rfl rfl rfl rfl ?_
    refine S_n (Ent.refl _) rfl rfl rfl rfl ?_
    refine S_no rfl rfl rfl rfl (fun _ => (Ent.refl _)) ?_
    refine S_no rfl rfl rfl rfl (fun _ => (Ent.refl _)) ?_
    refine S_n (Ent.refl _) rfl rfl rfl rfl ?_
    first
      | refine S_q (Ent.refl _) rfl (Q_pickT rfl rfl) rfl rfl rfl ?_
      | refine S_q (Ent.refl _) rfl (Q_pickF rfl rfl) rfl rfl rfl ?_
      | refine S_q (Ent.refl _) rfl (Q_pickB rfl rfl rfl) rfl rfl rfl ?_
    refine S_q (Ent.refl _) rfl (Q_assign rfl) rfl rfl rfl ?_
    refine S_nil ?_
    repeat first
      | refine J_seq ?_
      | refine seqQ_normal ?_
      | refine J_condT rfl ?_
      | refine J_condF rfl ?_
      | refine J_block ?_
      | refine blockQ_normal ?_
      | refine J_exit ?_
      | refine seqQ_exit ?_
      | refine blockQ_hit ?_
      | refine blockQ_miss rfl ?_
      | refine J_skip ?_
      | refine J_ret ?_
      | refine seqQ_ret ?_
      | refine blockQ_ret ?_
      | refine loopQ_exit ?_
      | refine loopQ_ret ?_
      | refine J_label ?_
    exact retQ_ret _ [] (.cons (RV_tmp rfl) .nil) ⟨rfl, rfl⟩ (Ent.refl _)
end Go.Proofs
