/- A write into the slots. -/
import Derived.Test.YtjpkeibhimimpaaSnap3
set_option autoImplicit false
namespace Go.Proofs
open Go.SL
attribute [local irreducible] J JL QOp JOp seqQ blockQ loopQ retQ slc cel hex star pur stars Does RV Ent pAt
theorem write_ok (E : World) (p : Nat) (S T : SV) (a b body : List UInt8) (upto : Int) (ha : a.length ≤ 100000) (hb : b.length ≤ 100000) :
    Does Try.prog E 11 [.pointer (some ⟨p, 0, none⟩), str body, .int .i64 upto] [cel p [S.v, T.v] 59, slc tB true S a, slc tB true T b] fun v L => ∃ S' T' : SV, v = .int .i64 (doW a b body upto).2.2 ∧ L = [cel p [S'.v, T'.v] 59, slc tB true S' (doW a b body upto).1, slc tB true T' (doW a b body upto).2.1] := by
  have ht := told_ok E p S T a b ha hb
  have htc := told_cases a b
  refine Does.of Try.func11 rfl Try.ntmps11 rfl rfl fun F => ?_
  refine J.norm ?_
  repeat first
    | refine J_seq ?_
    | refine seqQ_normal ?_
    | refine J_condT rfl ?_
    | refine J_condF rfl ?_
    | refine J_block ?_
    | refine blockQ_normal ?_
    | refine J_exit ?_
    | refine seqQ_exit ?_
    | refine blockQ_hit ?_
    | refine blockQ_miss rfl ?_
    | refine J_skip ?_
    | refine J_ret ?_
    | refine seqQ_ret ?_
    | refine blockQ_ret ?_
    | refine loopQ_exit ?_
    | refine loopQ_ret ?_
    | refine J_label ?_
  refine J_region ?_
  refine L_q (Q_assign rfl) rfl rfl rfl ?_
  refine JL_nil ?_
  repeat first
    | refine J_seq ?_
    | refine seqQ_normal ?_
    | refine J_condT rfl ?_
    | refine J_condF rfl ?_
    | refine J_block ?_
    | refine blockQ_normal ?_
    | refine J_exit ?_
    | refine seqQ_exit ?_
    | refine blockQ_hit ?_
    | refine blockQ_miss rfl ?_
    | refine J_skip ?_
    | refine J_ret ?_
    | refine seqQ_ret ?_
    | refine blockQ_ret ?_
    | refine loopQ_exit ?_
    | refine loopQ_ret ?_
    | refine J_label ?_
  repeat first
    | refine J_seq ?_
    | refine seqQ_normal ?_
    | refine J_condT rfl ?_
    | refine J_condF rfl ?_
    | refine J_block ?_
    | refine blockQ_normal ?_
    | refine J_exit ?_
    | refine seqQ_exit ?_
    | refine blockQ_hit ?_
    | refine blockQ_miss rfl ?_
    | refine J_skip ?_
    | refine J_ret ?_
    | refine seqQ_ret ?_
    | refine blockQ_ret ?_
    | refine loopQ_exit ?_
    | refine loopQ_ret ?_
    | refine J_label ?_
  refine J_region ?_
  refine L_q (Q_move rfl) rfl rfl rfl ?_
  refine L_q (Q_peql rfl rfl) rfl rfl rfl ?_
  refine JL_nil ?_
  repeat first
    | refine J_seq ?_
    | refine seqQ_normal ?_
    | refine J_condT rfl ?_
    | refine J_condF rfl ?_
    | refine J_block ?_
    | refine blockQ_normal ?_
    | refine J_exit ?_
    | refine seqQ_exit ?_
    | refine blockQ_hit ?_
    | refine blockQ_miss rfl ?_
    | refine J_skip ?_
    | refine J_ret ?_
    | refine seqQ_ret ?_
    | refine blockQ_ret ?_
    | refine loopQ_exit ?_
    | refine loopQ_ret ?_
    | refine J_label ?_
  repeat first
    | refine J_seq ?_
    | refine seqQ_normal ?_
    | refine J_condT rfl ?_
    | refine J_condF rfl ?_
    | refine J_block ?_
    | refine blockQ_normal ?_
    | refine J_exit ?_
    | refine seqQ_exit ?_
    | refine blockQ_hit ?_
    | refine blockQ_miss rfl ?_
    | refine J_skip ?_
    | refine J_ret ?_
    | refine seqQ_ret ?_
    | refine blockQ_ret ?_
    | refine loopQ_exit ?_
    | refine loopQ_ret ?_
    | refine J_label ?_
  refine J_region ?_
  refine L_q (Q_move rfl) rfl rfl rfl ?_
  refine L_q (Q_slen rfl) rfl rfl rfl ?_
  refine L_q (Q_gtr rfl rfl) rfl rfl rfl ?_
  refine JL_nil ?_
  repeat first
    | refine J_seq ?_
    | refine seqQ_normal ?_
    | refine J_condT rfl ?_
    | refine J_condF rfl ?_
    | refine J_block ?_
    | refine blockQ_normal ?_
    | refine J_exit ?_
    | refine seqQ_exit ?_
    | refine blockQ_hit ?_
    | refine blockQ_miss rfl ?_
    | refine J_skip ?_
    | refine J_ret ?_
    | refine seqQ_ret ?_
    | refine blockQ_ret ?_
    | refine loopQ_exit ?_
    | refine loopQ_ret ?_
    | refine J_label ?_
  refine J_condD rfl (fun h0 => ?_) (fun h0 => ?_)
  · have hdo : doW a b body upto = (a, b, 2) := by unfold doW; rw [if_pos (by omega)]
    repeat first
      | refine J_seq ?_
      | refine seqQ_normal ?_
      | refine J_condT rfl ?_
      | refine J_condF rfl ?_
      | refine J_block ?_
      | refine blockQ_normal ?_
      | refine J_exit ?_
      | refine seqQ_exit ?_
      | refine blockQ_hit ?_
      | refine blockQ_miss rfl ?_
      | refine J_skip ?_
      | refine J_ret ?_
      | refine seqQ_ret ?_
      | refine blockQ_ret ?_
      | refine loopQ_exit ?_
      | refine loopQ_ret ?_
      | refine J_label ?_
    refine J_region ?_
    refine L_q (Q_assign rfl) rfl rfl rfl ?_
    refine JL_nil ?_
    repeat first
      | refine J_seq ?_
      | refine seqQ_normal ?_
      | refine J_condT rfl ?_
      | refine J_condF rfl ?_
      | refine J_block ?_
      | refine blockQ_normal ?_
      | refine J_exit ?_
      | refine seqQ_exit ?_
      | refine blockQ_hit ?_
      | refine blockQ_miss rfl ?_
      | refine J_skip ?_
      | refine J_ret ?_
      | refine seqQ_ret ?_
      | refine blockQ_ret ?_
      | refine loopQ_exit ?_
      | refine loopQ_ret ?_
      | refine J_label ?_
    exact retQ_ret _ [cel p [S.v, T.v] 59, slc tB true S a, slc tB true T b] (.cons (RV_tmp rfl) .nil) ⟨S, T, by simp only [hdo]; first | done | rfl, by simp only [hdo]⟩ (Ent.refl _)
  · have hd0 : doW a b body upto = if told a b = 0 then (a, wrote a b body upto, 0) else (wrote a b body upto, b, 0) := by unfold doW; rw [if_neg (by omega)]
    rcases htc with ⟨e, hr⟩ | ⟨e, hr⟩ | e
    · rw [e] at ht
      have hl := right_long hr
      have hdo : doW a b body upto = (wrote a b body upto, b, 0) := by rw [hd0, if_neg (by omega)]
      repeat first
        | refine J_seq ?_
        | refine seqQ_normal ?_
        | refine J_condT rfl ?_
        | refine J_condF rfl ?_
        | refine J_block ?_
        | refine blockQ_normal ?_
        | refine J_exit ?_
        | refine seqQ_exit ?_
        | refine blockQ_hit ?_
        | refine blockQ_miss rfl ?_
        | refine J_skip ?_
        | refine J_ret ?_
        | refine seqQ_ret ?_
        | refine blockQ_ret ?_
        | refine loopQ_exit ?_
        | refine loopQ_ret ?_
        | refine J_label ?_
      refine J_region ?_
      refine L_q (Q_move rfl) rfl rfl rfl ?_
      refine L_o rfl rfl rfl (O_call [0,1,2] [3] ht rfl rfl ?_)
      rintro _ _ ⟨rfl, rfl⟩
      refine JL.norm ?_
      refine L_q (Q_assign rfl) rfl rfl rfl ?_
      refine L_q (Q_assign rfl) rfl rfl rfl ?_
      refine JL_nil ?_
      repeat first
        | refine J_seq ?_
        | refine seqQ_normal ?_
        | refine J_condT rfl ?_
        | refine J_condF rfl ?_
        | refine J_block ?_
        | refine blockQ_normal ?_
        | refine J_exit ?_
        | refine seqQ_exit ?_
        | refine blockQ_hit ?_
        | refine blockQ_miss rfl ?_
        | refine J_skip ?_
        | refine J_ret ?_
        | refine seqQ_ret ?_
        | refine blockQ_ret ?_
        | refine loopQ_exit ?_
        | refine loopQ_ret ?_
        | refine J_label ?_
      repeat first
        | refine J_seq ?_
        | refine seqQ_normal ?_
        | refine J_condT rfl ?_
        | refine J_condF rfl ?_
        | refine J_block ?_
        | refine blockQ_normal ?_
        | refine J_exit ?_
        | refine seqQ_exit ?_
        | refine blockQ_hit ?_
        | refine blockQ_miss rfl ?_
        | refine J_skip ?_
        | refine J_ret ?_
        | refine seqQ_ret ?_
        | refine blockQ_ret ?_
        | refine loopQ_exit ?_
        | refine loopQ_ret ?_
        | refine J_label ?_
      refine J_region ?_
      refine L_q (Q_move rfl) rfl rfl rfl ?_
      refine L_q (Q_geq rfl rfl) rfl rfl rfl ?_
      refine JL_nil ?_
      repeat first
        | refine J_seq ?_
        | refine seqQ_normal ?_
        | refine J_condT rfl ?_
        | refine J_condF rfl ?_
        | refine J_block ?_
        | refine blockQ_normal ?_
        | refine J_exit ?_
        | refine seqQ_exit ?_
        | refine blockQ_hit ?_
        | refine blockQ_miss rfl ?_
        | refine J_skip ?_
        | refine J_ret ?_
        | refine seqQ_ret ?_
        | refine blockQ_ret ?_
        | refine loopQ_exit ?_
        | refine loopQ_ret ?_
        | refine J_label ?_
      repeat first
        | refine J_seq ?_
        | refine seqQ_normal ?_
        | refine J_condT rfl ?_
        | refine J_condF rfl ?_
        | refine J_block ?_
        | refine blockQ_normal ?_
        | refine J_exit ?_
        | refine seqQ_exit ?_
        | refine blockQ_hit ?_
        | refine blockQ_miss rfl ?_
        | refine J_skip ?_
        | refine J_ret ?_
        | refine seqQ_ret ?_
        | refine blockQ_ret ?_
        | refine loopQ_exit ?_
        | refine loopQ_ret ?_
        | refine J_label ?_
      refine J_region ?_
      refine L_q (Q_move rfl) rfl rfl rfl ?_
      refine L_q (Q_move rfl) rfl rfl rfl ?_
      first
        | refine L_q (Q_pnil rfl) rfl rfl rfl ?_
        | refine L_q (Q_nilCheck rfl) rfl rfl rfl ?_
      first
        | refine L_q (Q_fa0 rfl) rfl rfl rfl ?_
        | refine L_q (Q_fa rfl rfl) rfl rfl rfl ?_
        | refine L_q (Q_pfa rfl) rfl rfl rfl ?_
      refine L_q (Q_ia (o' := 1) 1 rfl rfl rfl (by decide) (by decide)) rfl rfl rfl ?_
      first
        | refine L_q (Q_ldA 0 rfl rfl rfl) rfl rfl rfl ?_
        | refine L_q (Q_ldA 1 rfl rfl rfl) rfl rfl rfl ?_
        | refine L_q (Q_ldA 2 rfl rfl rfl) rfl rfl rfl ?_
        | refine L_q (Q_ldA 3 rfl rfl rfl) rfl rfl rfl ?_
        | refine L_q (Q_ldA 4 rfl rfl rfl) rfl rfl rfl ?_
      refine L_o rfl rfl rfl (O_call [2] [0,1,3] (words_ok E T b hl) rfl rfl ?_)
      rintro _ _ ⟨rfl, rfl⟩
      refine JL.norm ?_
      refine L_q (Q_aiS (v' := .int .u32 (nw b 1 : Int)) 1 rfl rfl rfl (by decide) rfl rfl) rfl rfl rfl ?_
      refine L_q (Q_assign rfl) rfl rfl rfl ?_
      refine JL_nil ?_
      repeat first
        | refine J_seq ?_
        | refine seqQ_normal ?_
        | refine J_condT rfl ?_
        | refine J_condF rfl ?_
        | refine J_block ?_
        | refine blockQ_normal ?_
        | refine J_exit ?_
        | refine seqQ_exit ?_
        | refine blockQ_hit ?_
        | refine blockQ_miss rfl ?_
        | refine J_skip ?_
        | refine J_ret ?_
        | refine seqQ_ret ?_
        | refine blockQ_ret ?_
        | refine loopQ_exit ?_
        | refine loopQ_ret ?_
        | refine J_label ?_
      obtain ⟨g, hgv⟩ : ∃ g : Nat, g = nw b 1 := ⟨_, rfl⟩
      have hgg : (if told a b = 1 then nw b 1 else if told a b = 0 then nw a 1 else 0) = g := by rw [if_pos e, hgv]
      rw [← hgv]
      repeat first
        | refine J_seq ?_
        | refine seqQ_normal ?_
        | refine J_condT rfl ?_
        | refine J_condF rfl ?_
        | refine J_block ?_
        | refine blockQ_normal ?_
        | refine J_exit ?_
        | refine seqQ_exit ?_
        | refine blockQ_hit ?_
        | refine blockQ_miss rfl ?_
        | refine J_skip ?_
        | refine J_ret ?_
        | refine seqQ_ret ?_
        | refine blockQ_ret ?_
        | refine loopQ_exit ?_
        | refine loopQ_ret ?_
        | refine J_label ?_
      refine J_region ?_
      refine L_q (Q_move rfl) rfl rfl rfl ?_
      refine L_q (Q_addN g 1 rfl rfl rfl rfl) rfl rfl rfl ?_
      refine L_o rfl rfl rfl (O_call [] [0,1,2,3] (four_ok E ((g + 1) % 2 ^ 32)) rfl rfl ?_)
      rintro _ _ ⟨S1, rfl, rfl⟩
      refine JL.norm ?_
      refine L_q (Q_move rfl) rfl rfl rfl ?_
      refine L_q (Q_slen rfl) rfl rfl rfl ?_
      refine L_q (Q_cvtN body.length rfl rfl) rfl rfl rfl ?_
      refine L_o rfl rfl rfl (O_call [] [0,1,2,3,4] (four_ok E (body.length % 2 ^ 32)) rfl rfl ?_)
      rintro _ _ ⟨S2, rfl, rfl⟩
      refine JL.norm ?_
      refine L_o rfl rfl rfl (O_app (τ := tB) 1 rfl (fun w h => h.rd 0 rfl) rfl rfl rfl rfl (by simp [four]) (by decide) (fun S3 => ?_))
      refine JL.norm ?_
      refine L_q (Q_assign rfl) rfl rfl rfl ?_
      refine JL_nil ?_
      repeat first
        | refine J_seq ?_
        | refine seqQ_normal ?_
        | refine J_condT rfl ?_
        | refine J_condF rfl ?_
        | refine J_block ?_
        | refine blockQ_normal ?_
        | refine J_exit ?_
        | refine seqQ_exit ?_
        | refine blockQ_hit ?_
        | refine blockQ_miss rfl ?_
        | refine J_skip ?_
        | refine J_ret ?_
        | refine seqQ_ret ?_
        | refine blockQ_ret ?_
        | refine loopQ_exit ?_
        | refine loopQ_ret ?_
        | refine J_label ?_
      repeat first
        | refine J_seq ?_
        | refine seqQ_normal ?_
        | refine J_condT rfl ?_
        | refine J_condF rfl ?_
        | refine J_block ?_
        | refine blockQ_normal ?_
        | refine J_exit ?_
        | refine seqQ_exit ?_
        | refine blockQ_hit ?_
        | refine blockQ_miss rfl ?_
        | refine J_skip ?_
        | refine J_ret ?_
        | refine seqQ_ret ?_
        | refine blockQ_ret ?_
        | refine loopQ_exit ?_
        | refine loopQ_ret ?_
        | refine J_label ?_
      refine J_region ?_
      refine L_q (Q_move rfl) rfl rfl rfl ?_
      refine L_q (Q_move rfl) rfl rfl rfl ?_
      refine L_o rfl rfl rfl (O_appS tB_enc 1 rfl rfl rfl rfl rfl (by simp [four]; omega) (by decide) (fun S4 => ?_))
      refine JL.norm ?_
      refine L_q (Q_assign rfl) rfl rfl rfl ?_
      refine JL_nil ?_
      repeat first
        | refine J_seq ?_
        | refine seqQ_normal ?_
        | refine J_condT rfl ?_
        | refine J_condF rfl ?_
        | refine J_block ?_
        | refine blockQ_normal ?_
        | refine J_exit ?_
        | refine seqQ_exit ?_
        | refine blockQ_hit ?_
        | refine blockQ_miss rfl ?_
        | refine J_skip ?_
        | refine J_ret ?_
        | refine seqQ_ret ?_
        | refine blockQ_ret ?_
        | refine loopQ_exit ?_
        | refine loopQ_ret ?_
        | refine J_label ?_
      repeat first
        | refine J_seq ?_
        | refine seqQ_normal ?_
        | refine J_condT rfl ?_
        | refine J_condF rfl ?_
        | refine J_block ?_
        | refine blockQ_normal ?_
        | refine J_exit ?_
        | refine seqQ_exit ?_
        | refine blockQ_hit ?_
        | refine blockQ_miss rfl ?_
        | refine J_skip ?_
        | refine J_ret ?_
        | refine seqQ_ret ?_
        | refine blockQ_ret ?_
        | refine loopQ_exit ?_
        | refine loopQ_ret ?_
        | refine J_label ?_
      refine J_region ?_
      refine L_q (Q_move rfl) rfl rfl rfl ?_
      refine L_q (Q_b2s tB_enc (fun w h => h.rd 1 rfl) rfl) rfl rfl rfl ?_
      refine L_o rfl rfl rfl (O_call [] [0,1,2,3,4,5] (sum_ok E _ (by simp [four]; omega)) rfl rfl ?_)
      rintro _ _ ⟨rfl, rfl⟩
      refine JL.norm ?_
      refine L_o rfl rfl rfl (O_call [] [0,1,2,3,4,5] (four_ok E _) rfl rfl ?_)
      rintro _ _ ⟨S5, rfl, rfl⟩
      refine JL.norm ?_
      refine L_q (Q_move rfl) rfl rfl rfl ?_
      refine L_o rfl rfl rfl (O_app (τ := tB) 0 rfl (fun w h => h.rd 2 rfl) rfl rfl rfl rfl (by simp [four]; omega) (by decide) (fun S6 => ?_))
      refine JL.norm ?_
      refine L_q (Q_assign rfl) rfl rfl rfl ?_
      refine JL_nil ?_
      repeat first
        | refine J_seq ?_
        | refine seqQ_normal ?_
        | refine J_condT rfl ?_
        | refine J_condF rfl ?_
        | refine J_block ?_
        | refine blockQ_normal ?_
        | refine J_exit ?_
        | refine seqQ_exit ?_
        | refine blockQ_hit ?_
        | refine blockQ_miss rfl ?_
        | refine J_skip ?_
        | refine J_ret ?_
        | refine seqQ_ret ?_
        | refine blockQ_ret ?_
        | refine loopQ_exit ?_
        | refine loopQ_ret ?_
        | refine J_label ?_
      have hwr : wrote a b body upto = if 0 ≤ upto ∧ upto < ((four (crc (four ((g + 1) % 2 ^ 32) ++ four (body.length % 2 ^ 32) ++ body)) ++ (four ((g + 1) % 2 ^ 32) ++ four (body.length % 2 ^ 32) ++ body)).length : Int) then (four (crc (four ((g + 1) % 2 ^ 32) ++ four (body.length % 2 ^ 32) ++ body)) ++ (four ((g + 1) % 2 ^ 32) ++ four (body.length % 2 ^ 32) ++ body)).take upto.toNat else four (crc (four ((g + 1) % 2 ^ 32) ++ four (body.length % 2 ^ 32) ++ body)) ++ (four ((g + 1) % 2 ^ 32) ++ four (body.length % 2 ^ 32) ++ body) := by simp only [wrote, hgg]
      generalize four (crc (four ((g + 1) % 2 ^ 32) ++ four (body.length % 2 ^ 32) ++ body)) ++ (four ((g + 1) % 2 ^ 32) ++ four (body.length % 2 ^ 32) ++ body) = u at hwr ⊢
      by_cases hu0 : 0 ≤ upto
      · by_cases hu1 : upto < (u.length : Int)
        · obtain ⟨m, rfl⟩ : ∃ m : Nat, upto = (m : Int) := ⟨upto.toNat, by omega⟩
          have hm : m ≤ u.length := by omega
          rw [if_pos ⟨hu0, hu1⟩, Int.toNat_natCast] at hwr
          repeat first
            | refine J_seq ?_
            | refine seqQ_normal ?_
            | refine J_condT rfl ?_
            | refine J_condF rfl ?_
            | refine J_block ?_
            | refine blockQ_normal ?_
            | refine J_exit ?_
            | refine seqQ_exit ?_
            | refine blockQ_hit ?_
            | refine blockQ_miss rfl ?_
            | refine J_skip ?_
            | refine J_ret ?_
            | refine seqQ_ret ?_
            | refine blockQ_ret ?_
            | refine loopQ_exit ?_
            | refine loopQ_ret ?_
            | refine J_label ?_
          refine J_region ?_
          refine L_q (Q_move rfl) rfl rfl rfl ?_
          refine L_q ((Q_geq rfl rfl).as (v' := .bool true) (congrArg Value.bool (decide_eq_true hu0))) rfl rfl rfl ?_
          refine L_q (Q_move rfl) rfl rfl rfl ?_
          refine L_q (Q_move rfl) rfl rfl rfl ?_
          refine L_q (Q_move rfl) rfl rfl rfl ?_
          first
            | refine L_q (Q_lenAt 0 rfl rfl) rfl rfl rfl ?_
            | refine L_q (Q_lenAt 1 rfl rfl) rfl rfl rfl ?_
            | refine L_q (Q_lenAt 2 rfl rfl) rfl rfl rfl ?_
            | refine L_q (Q_lenAt 3 rfl rfl) rfl rfl rfl ?_
            | refine L_q (Q_lenAt 4 rfl rfl) rfl rfl rfl ?_
          refine L_q ((Q_lss rfl rfl).as (v' := .bool true) (congrArg Value.bool (decide_eq_true hu1))) rfl rfl rfl ?_
          first
            | refine L_q (Q_pickT rfl rfl) rfl rfl rfl ?_
            | refine L_q (Q_pickF rfl rfl) rfl rfl rfl ?_
            | refine L_q (Q_pickB rfl rfl rfl) rfl rfl rfl ?_
          refine JL_nil ?_
          repeat first
            | refine J_seq ?_
            | refine seqQ_normal ?_
            | refine J_condT rfl ?_
            | refine J_condF rfl ?_
            | refine J_block ?_
            | refine blockQ_normal ?_
            | refine J_exit ?_
            | refine seqQ_exit ?_
            | refine blockQ_hit ?_
            | refine blockQ_miss rfl ?_
            | refine J_skip ?_
            | refine J_ret ?_
            | refine seqQ_ret ?_
            | refine blockQ_ret ?_
            | refine loopQ_exit ?_
            | refine loopQ_ret ?_
            | refine J_label ?_
          repeat first
            | refine J_seq ?_
            | refine seqQ_normal ?_
            | refine J_condT rfl ?_
            | refine J_condF rfl ?_
            | refine J_block ?_
            | refine blockQ_normal ?_
            | refine J_exit ?_
            | refine seqQ_exit ?_
            | refine blockQ_hit ?_
            | refine blockQ_miss rfl ?_
            | refine J_skip ?_
            | refine J_ret ?_
            | refine seqQ_ret ?_
            | refine blockQ_ret ?_
            | refine loopQ_exit ?_
            | refine loopQ_ret ?_
            | refine J_label ?_
          refine J_region ?_
          refine L_q (Q_move rfl) rfl rfl rfl ?_
          refine L_q (Q_move rfl) rfl rfl rfl ?_
          refine L_q (Q_slH m (fun w h => h.rd 0 rfl) rfl rfl rfl hm rfl) rfl rfl rfl ?_
          refine L_q (Q_assign rfl) rfl rfl rfl ?_
          refine JL_nil ?_
          repeat first
            | refine J_seq ?_
            | refine seqQ_normal ?_
            | refine J_condT rfl ?_
            | refine J_condF rfl ?_
            | refine J_block ?_
            | refine blockQ_normal ?_
            | refine J_exit ?_
            | refine seqQ_exit ?_
            | refine blockQ_hit ?_
            | refine blockQ_miss rfl ?_
            | refine J_skip ?_
            | refine J_ret ?_
            | refine seqQ_ret ?_
            | refine blockQ_ret ?_
            | refine loopQ_exit ?_
            | refine loopQ_ret ?_
            | refine J_label ?_
          repeat first
            | refine J_seq ?_
            | refine seqQ_normal ?_
            | refine J_condT rfl ?_
            | refine J_condF rfl ?_
            | refine J_block ?_
            | refine blockQ_normal ?_
            | refine J_exit ?_
            | refine seqQ_exit ?_
            | refine blockQ_hit ?_
            | refine blockQ_miss rfl ?_
            | refine J_skip ?_
            | refine J_ret ?_
            | refine seqQ_ret ?_
            | refine blockQ_ret ?_
            | refine loopQ_exit ?_
            | refine loopQ_ret ?_
            | refine J_label ?_
          refine J_region ?_
          refine L_q (Q_move rfl) rfl rfl rfl ?_
          refine L_q (Q_eql rfl rfl) rfl rfl rfl ?_
          refine JL_nil ?_
          repeat first
            | refine J_seq ?_
            | refine seqQ_normal ?_
            | refine J_condT rfl ?_
            | refine J_condF rfl ?_
            | refine J_block ?_
            | refine blockQ_normal ?_
            | refine J_exit ?_
            | refine seqQ_exit ?_
            | refine blockQ_hit ?_
            | refine blockQ_miss rfl ?_
            | refine J_skip ?_
            | refine J_ret ?_
            | refine seqQ_ret ?_
            | refine blockQ_ret ?_
            | refine loopQ_exit ?_
            | refine loopQ_ret ?_
            | refine J_label ?_
          repeat first
            | refine J_seq ?_
            | refine seqQ_normal ?_
            | refine J_condT rfl ?_
            | refine J_condF rfl ?_
            | refine J_block ?_
            | refine blockQ_normal ?_
            | refine J_exit ?_
            | refine seqQ_exit ?_
            | refine blockQ_hit ?_
            | refine blockQ_miss rfl ?_
            | refine J_skip ?_
            | refine J_ret ?_
            | refine seqQ_ret ?_
            | refine blockQ_ret ?_
            | refine loopQ_exit ?_
            | refine loopQ_ret ?_
            | refine J_label ?_
          refine J_region ?_
          refine L_q (Q_move rfl) rfl rfl rfl ?_
          refine L_q (Q_move rfl) rfl rfl rfl ?_
          refine L_q (Q_build rfl) rfl rfl rfl ?_
          first
            | refine L_q (Q_pnil rfl) rfl rfl rfl ?_
            | refine L_q (Q_nilCheck rfl) rfl rfl rfl ?_
          first
            | refine L_q (Q_fa0 rfl) rfl rfl rfl ?_
            | refine L_q (Q_fa rfl rfl) rfl rfl rfl ?_
            | refine L_q (Q_pfa rfl) rfl rfl rfl ?_
          refine L_q (Q_ia (o' := 0) 0 rfl rfl rfl (by decide) (by decide)) rfl rfl rfl ?_
          refine L_s rfl rfl (O_st (sz := 1) (cs' := [(SV.sub S6 tB.sz 0 m).v, T.v]) 4 rfl rfl rfl rfl rfl (by simp [Value.oneCell', Value.cells]) (by simp) rfl ?_)
          refine JL.norm ?_
          refine JL_nil ?_
          repeat first
            | refine J_seq ?_
            | refine seqQ_normal ?_
            | refine J_condT rfl ?_
            | refine J_condF rfl ?_
            | refine J_block ?_
            | refine blockQ_normal ?_
            | refine J_exit ?_
            | refine seqQ_exit ?_
            | refine blockQ_hit ?_
            | refine blockQ_miss rfl ?_
            | refine J_skip ?_
            | refine J_ret ?_
            | refine seqQ_ret ?_
            | refine blockQ_ret ?_
            | refine loopQ_exit ?_
            | refine loopQ_ret ?_
            | refine J_label ?_
          repeat first
            | refine J_seq ?_
            | refine seqQ_normal ?_
            | refine J_condT rfl ?_
            | refine J_condF rfl ?_
            | refine J_block ?_
            | refine blockQ_normal ?_
            | refine J_exit ?_
            | refine seqQ_exit ?_
            | refine blockQ_hit ?_
            | refine blockQ_miss rfl ?_
            | refine J_skip ?_
            | refine J_ret ?_
            | refine seqQ_ret ?_
            | refine blockQ_ret ?_
            | refine loopQ_exit ?_
            | refine loopQ_ret ?_
            | refine J_label ?_
          refine J_region ?_
          refine L_q (Q_assign rfl) rfl rfl rfl ?_
          refine JL_nil ?_
          repeat first
            | refine J_seq ?_
            | refine seqQ_normal ?_
            | refine J_condT rfl ?_
            | refine J_condF rfl ?_
            | refine J_block ?_
            | refine blockQ_normal ?_
            | refine J_exit ?_
            | refine seqQ_exit ?_
            | refine blockQ_hit ?_
            | refine blockQ_miss rfl ?_
            | refine J_skip ?_
            | refine J_ret ?_
            | refine seqQ_ret ?_
            | refine blockQ_ret ?_
            | refine loopQ_exit ?_
            | refine loopQ_ret ?_
            | refine J_label ?_
          refine retQ_ret _ [cel p [(SV.sub S6 tB.sz 0 m).v, T.v] 59, slc tB true (SV.sub S6 tB.sz 0 m) ((u.take m).drop 0), slc tB true T b] (.cons (RV_tmp rfl) .nil) ⟨(SV.sub S6 tB.sz 0 m), T, by simp only [hdo]; first | done | rfl, by simp only [hdo, hwr]; first | done | rfl⟩ ?_
          exact (Ent.sub 0 0 m rfl (Nat.zero_le _) hm).trans (Ent.re [4,0,3,6] rfl)
        · rw [if_neg (fun h => hu1 h.2)] at hwr
          repeat first
            | refine J_seq ?_
            | refine seqQ_normal ?_
            | refine J_condT rfl ?_
            | refine J_condF rfl ?_
            | refine J_block ?_
            | refine blockQ_normal ?_
            | refine J_exit ?_
            | refine seqQ_exit ?_
            | refine blockQ_hit ?_
            | refine blockQ_miss rfl ?_
            | refine J_skip ?_
            | refine J_ret ?_
            | refine seqQ_ret ?_
            | refine blockQ_ret ?_
            | refine loopQ_exit ?_
            | refine loopQ_ret ?_
            | refine J_label ?_
          refine J_region ?_
          refine L_q (Q_move rfl) rfl rfl rfl ?_
          refine L_q ((Q_geq rfl rfl).as (v' := .bool true) (congrArg Value.bool (decide_eq_true hu0))) rfl rfl rfl ?_
          refine L_q (Q_move rfl) rfl rfl rfl ?_
          refine L_q (Q_move rfl) rfl rfl rfl ?_
          refine L_q (Q_move rfl) rfl rfl rfl ?_
          first
            | refine L_q (Q_lenAt 0 rfl rfl) rfl rfl rfl ?_
            | refine L_q (Q_lenAt 1 rfl rfl) rfl rfl rfl ?_
            | refine L_q (Q_lenAt 2 rfl rfl) rfl rfl rfl ?_
            | refine L_q (Q_lenAt 3 rfl rfl) rfl rfl rfl ?_
            | refine L_q (Q_lenAt 4 rfl rfl) rfl rfl rfl ?_
          refine L_q ((Q_lss rfl rfl).as (v' := .bool false) (congrArg Value.bool (decide_eq_false hu1))) rfl rfl rfl ?_
          first
            | refine L_q (Q_pickT rfl rfl) rfl rfl rfl ?_
            | refine L_q (Q_pickF rfl rfl) rfl rfl rfl ?_
            | refine L_q (Q_pickB rfl rfl rfl) rfl rfl rfl ?_
          refine JL_nil ?_
          repeat first
            | refine J_seq ?_
            | refine seqQ_normal ?_
            | refine J_condT rfl ?_
            | refine J_condF rfl ?_
            | refine J_block ?_
            | refine blockQ_normal ?_
            | refine J_exit ?_
            | refine seqQ_exit ?_
            | refine blockQ_hit ?_
            | refine blockQ_miss rfl ?_
            | refine J_skip ?_
            | refine J_ret ?_
            | refine seqQ_ret ?_
            | refine blockQ_ret ?_
            | refine loopQ_exit ?_
            | refine loopQ_ret ?_
            | refine J_label ?_
          repeat first
            | refine J_seq ?_
            | refine seqQ_normal ?_
            | refine J_condT rfl ?_
            | refine J_condF rfl ?_
            | refine J_block ?_
            | refine blockQ_normal ?_
            | refine J_exit ?_
            | refine seqQ_exit ?_
            | refine blockQ_hit ?_
            | refine blockQ_miss rfl ?_
            | refine J_skip ?_
            | refine J_ret ?_
            | refine seqQ_ret ?_
            | refine blockQ_ret ?_
            | refine loopQ_exit ?_
            | refine loopQ_ret ?_
            | refine J_label ?_
          refine J_region ?_
          refine L_q (Q_move rfl) rfl rfl rfl ?_
          refine L_q (Q_eql rfl rfl) rfl rfl rfl ?_
          refine JL_nil ?_
          repeat first
            | refine J_seq ?_
            | refine seqQ_normal ?_
            | refine J_condT rfl ?_
            | refine J_condF rfl ?_
            | refine J_block ?_
            | refine blockQ_normal ?_
            | refine J_exit ?_
            | refine seqQ_exit ?_
            | refine blockQ_hit ?_
            | refine blockQ_miss rfl ?_
            | refine J_skip ?_
            | refine J_ret ?_
            | refine seqQ_ret ?_
            | refine blockQ_ret ?_
            | refine loopQ_exit ?_
            | refine loopQ_ret ?_
            | refine J_label ?_
          repeat first
            | refine J_seq ?_
            | refine seqQ_normal ?_
            | refine J_condT rfl ?_
            | refine J_condF rfl ?_
            | refine J_block ?_
            | refine blockQ_normal ?_
            | refine J_exit ?_
            | refine seqQ_exit ?_
            | refine blockQ_hit ?_
            | refine blockQ_miss rfl ?_
            | refine J_skip ?_
            | refine J_ret ?_
            | refine seqQ_ret ?_
            | refine blockQ_ret ?_
            | refine loopQ_exit ?_
            | refine loopQ_ret ?_
            | refine J_label ?_
          refine J_region ?_
          refine L_q (Q_move rfl) rfl rfl rfl ?_
          refine L_q (Q_move rfl) rfl rfl rfl ?_
          refine L_q (Q_build rfl) rfl rfl rfl ?_
          first
            | refine L_q (Q_pnil rfl) rfl rfl rfl ?_
            | refine L_q (Q_nilCheck rfl) rfl rfl rfl ?_
          first
            | refine L_q (Q_fa0 rfl) rfl rfl rfl ?_
            | refine L_q (Q_fa rfl rfl) rfl rfl rfl ?_
            | refine L_q (Q_pfa rfl) rfl rfl rfl ?_
          refine L_q (Q_ia (o' := 0) 0 rfl rfl rfl (by decide) (by decide)) rfl rfl rfl ?_
          refine L_s rfl rfl (O_st (sz := 1) (cs' := [S6.v, T.v]) 4 rfl rfl rfl rfl rfl (by simp [Value.oneCell', Value.cells]) (by simp) rfl ?_)
          refine JL.norm ?_
          refine JL_nil ?_
          repeat first
            | refine J_seq ?_
            | refine seqQ_normal ?_
            | refine J_condT rfl ?_
            | refine J_condF rfl ?_
            | refine J_block ?_
            | refine blockQ_normal ?_
            | refine J_exit ?_
            | refine seqQ_exit ?_
            | refine blockQ_hit ?_
            | refine blockQ_miss rfl ?_
            | refine J_skip ?_
            | refine J_ret ?_
            | refine seqQ_ret ?_
            | refine blockQ_ret ?_
            | refine loopQ_exit ?_
            | refine loopQ_ret ?_
            | refine J_label ?_
          repeat first
            | refine J_seq ?_
            | refine seqQ_normal ?_
            | refine J_condT rfl ?_
            | refine J_condF rfl ?_
            | refine J_block ?_
            | refine blockQ_normal ?_
            | refine J_exit ?_
            | refine seqQ_exit ?_
            | refine blockQ_hit ?_
            | refine blockQ_miss rfl ?_
            | refine J_skip ?_
            | refine J_ret ?_
            | refine seqQ_ret ?_
            | refine blockQ_ret ?_
            | refine loopQ_exit ?_
            | refine loopQ_ret ?_
            | refine J_label ?_
          refine J_region ?_
          refine L_q (Q_assign rfl) rfl rfl rfl ?_
          refine JL_nil ?_
          repeat first
            | refine J_seq ?_
            | refine seqQ_normal ?_
            | refine J_condT rfl ?_
            | refine J_condF rfl ?_
            | refine J_block ?_
            | refine blockQ_normal ?_
            | refine J_exit ?_
            | refine seqQ_exit ?_
            | refine blockQ_hit ?_
            | refine blockQ_miss rfl ?_
            | refine J_skip ?_
            | refine J_ret ?_
            | refine seqQ_ret ?_
            | refine blockQ_ret ?_
            | refine loopQ_exit ?_
            | refine loopQ_ret ?_
            | refine J_label ?_
          exact retQ_ret _ [cel p [S6.v, T.v] 59, slc tB true S6 u, slc tB true T b] (.cons (RV_tmp rfl) .nil) ⟨S6, T, by simp only [hdo]; first | done | rfl, by simp only [hdo, hwr]; first | done | rfl⟩ (Ent.re [4,0,3,6] rfl)
      · rw [if_neg (fun h => hu0 h.1)] at hwr
        repeat first
          | refine J_seq ?_
          | refine seqQ_normal ?_
          | refine J_condT rfl ?_
          | refine J_condF rfl ?_
          | refine J_block ?_
          | refine blockQ_normal ?_
          | refine J_exit ?_
          | refine seqQ_exit ?_
          | refine blockQ_hit ?_
          | refine blockQ_miss rfl ?_
          | refine J_skip ?_
          | refine J_ret ?_
          | refine seqQ_ret ?_
          | refine blockQ_ret ?_
          | refine loopQ_exit ?_
          | refine loopQ_ret ?_
          | refine J_label ?_
        refine J_region ?_
        refine L_q (Q_move rfl) rfl rfl rfl ?_
        refine L_q ((Q_geq rfl rfl).as (v' := .bool false) (congrArg Value.bool (decide_eq_false hu0))) rfl rfl rfl ?_
        refine L_q (Q_move rfl) rfl rfl rfl ?_
        refine L_n rfl rfl rfl ?_
        refine L_n rfl rfl rfl ?_
        refine L_n rfl rfl rfl ?_
        refine L_n rfl rfl rfl ?_
        first
          | refine L_q (Q_pickT rfl rfl) rfl rfl rfl ?_
          | refine L_q (Q_pickF rfl rfl) rfl rfl rfl ?_
          | refine L_q (Q_pickB rfl rfl rfl) rfl rfl rfl ?_
        refine JL_nil ?_
        repeat first
          | refine J_seq ?_
          | refine seqQ_normal ?_
          | refine J_condT rfl ?_
          | refine J_condF rfl ?_
          | refine J_block ?_
          | refine blockQ_normal ?_
          | refine J_exit ?_
          | refine seqQ_exit ?_
          | refine blockQ_hit ?_
          | refine blockQ_miss rfl ?_
          | refine J_skip ?_
          | refine J_ret ?_
          | refine seqQ_ret ?_
          | refine blockQ_ret ?_
          | refine loopQ_exit ?_
          | refine loopQ_ret ?_
          | refine J_label ?_
        repeat first
          | refine J_seq ?_
          | refine seqQ_normal ?_
          | refine J_condT rfl ?_
          | refine J_condF rfl ?_
          | refine J_block ?_
          | refine blockQ_normal ?_
          | refine J_exit ?_
          | refine seqQ_exit ?_
          | refine blockQ_hit ?_
          | refine blockQ_miss rfl ?_
          | refine J_skip ?_
          | refine J_ret ?_
          | refine seqQ_ret ?_
          | refine blockQ_ret ?_
          | refine loopQ_exit ?_
          | refine loopQ_ret ?_
          | refine J_label ?_
        refine J_region ?_
        refine L_q (Q_move rfl) rfl rfl rfl ?_
        refine L_q (Q_eql rfl rfl) rfl rfl rfl ?_
        refine JL_nil ?_
        repeat first
          | refine J_seq ?_
          | refine seqQ_normal ?_
          | refine J_condT rfl ?_
          | refine J_condF rfl ?_
          | refine J_block ?_
          | refine blockQ_normal ?_
          | refine J_exit ?_
          | refine seqQ_exit ?_
          | refine blockQ_hit ?_
          | refine blockQ_miss rfl ?_
          | refine J_skip ?_
          | refine J_ret ?_
          | refine seqQ_ret ?_
          | refine blockQ_ret ?_
          | refine loopQ_exit ?_
          | refine loopQ_ret ?_
          | refine J_label ?_
        repeat first
          | refine J_seq ?_
          | refine seqQ_normal ?_
          | refine J_condT rfl ?_
          | refine J_condF rfl ?_
          | refine J_block ?_
          | refine blockQ_normal ?_
          | refine J_exit ?_
          | refine seqQ_exit ?_
          | refine blockQ_hit ?_
          | refine blockQ_miss rfl ?_
          | refine J_skip ?_
          | refine J_ret ?_
          | refine seqQ_ret ?_
          | refine blockQ_ret ?_
          | refine loopQ_exit ?_
          | refine loopQ_ret ?_
          | refine J_label ?_
        refine J_region ?_
        refine L_q (Q_move rfl) rfl rfl rfl ?_
        refine L_q (Q_move rfl) rfl rfl rfl ?_
        refine L_q (Q_build rfl) rfl rfl rfl ?_
        first
          | refine L_q (Q_pnil rfl) rfl rfl rfl ?_
          | refine L_q (Q_nilCheck rfl) rfl rfl rfl ?_
        first
          | refine L_q (Q_fa0 rfl) rfl rfl rfl ?_
          | refine L_q (Q_fa rfl rfl) rfl rfl rfl ?_
          | refine L_q (Q_pfa rfl) rfl rfl rfl ?_
        refine L_q (Q_ia (o' := 0) 0 rfl rfl rfl (by decide) (by decide)) rfl rfl rfl ?_
        refine L_s rfl rfl (O_st (sz := 1) (cs' := [S6.v, T.v]) 4 rfl rfl rfl rfl rfl (by simp [Value.oneCell', Value.cells]) (by simp) rfl ?_)
        refine JL.norm ?_
        refine JL_nil ?_
        repeat first
          | refine J_seq ?_
          | refine seqQ_normal ?_
          | refine J_condT rfl ?_
          | refine J_condF rfl ?_
          | refine J_block ?_
          | refine blockQ_normal ?_
          | refine J_exit ?_
          | refine seqQ_exit ?_
          | refine blockQ_hit ?_
          | refine blockQ_miss rfl ?_
          | refine J_skip ?_
          | refine J_ret ?_
          | refine seqQ_ret ?_
          | refine blockQ_ret ?_
          | refine loopQ_exit ?_
          | refine loopQ_ret ?_
          | refine J_label ?_
        repeat first
          | refine J_seq ?_
          | refine seqQ_normal ?_
          | refine J_condT rfl ?_
          | refine J_condF rfl ?_
          | refine J_block ?_
          | refine blockQ_normal ?_
          | refine J_exit ?_
          | refine seqQ_exit ?_
          | refine blockQ_hit ?_
          | refine blockQ_miss rfl ?_
          | refine J_skip ?_
          | refine J_ret ?_
          | refine seqQ_ret ?_
          | refine blockQ_ret ?_
          | refine loopQ_exit ?_
          | refine loopQ_ret ?_
          | refine J_label ?_
        refine J_region ?_
        refine L_q (Q_assign rfl) rfl rfl rfl ?_
        refine JL_nil ?_
        repeat first
          | refine J_seq ?_
          | refine seqQ_normal ?_
          | refine J_condT rfl ?_
          | refine J_condF rfl ?_
          | refine J_block ?_
          | refine blockQ_normal ?_
          | refine J_exit ?_
          | refine seqQ_exit ?_
          | refine blockQ_hit ?_
          | refine blockQ_miss rfl ?_
          | refine J_skip ?_
          | refine J_ret ?_
          | refine seqQ_ret ?_
          | refine blockQ_ret ?_
          | refine loopQ_exit ?_
          | refine loopQ_ret ?_
          | refine J_label ?_
        exact retQ_ret _ [cel p [S6.v, T.v] 59, slc tB true S6 u, slc tB true T b] (.cons (RV_tmp rfl) .nil) ⟨S6, T, by simp only [hdo]; first | done | rfl, by simp only [hdo, hwr]; first | done | rfl⟩ (Ent.re [4,0,3,6] rfl)
    · rw [e] at ht
      have hl := right_long hr
      have hdo : doW a b body upto = (a, wrote a b body upto, 0) := by rw [hd0, if_pos e]
      repeat first
        | refine J_seq ?_
        | refine seqQ_normal ?_
        | refine J_condT rfl ?_
        | refine J_condF rfl ?_
        | refine J_block ?_
        | refine blockQ_normal ?_
        | refine J_exit ?_
        | refine seqQ_exit ?_
        | refine blockQ_hit ?_
        | refine blockQ_miss rfl ?_
        | refine J_skip ?_
        | refine J_ret ?_
        | refine seqQ_ret ?_
        | refine blockQ_ret ?_
        | refine loopQ_exit ?_
        | refine loopQ_ret ?_
        | refine J_label ?_
      refine J_region ?_
      refine L_q (Q_move rfl) rfl rfl rfl ?_
      refine L_o rfl rfl rfl (O_call [0,1,2] [3] ht rfl rfl ?_)
      rintro _ _ ⟨rfl, rfl⟩
      refine JL.norm ?_
      refine L_q (Q_assign rfl) rfl rfl rfl ?_
      refine L_q (Q_assign rfl) rfl rfl rfl ?_
      refine JL_nil ?_
      repeat first
        | refine J_seq ?_
        | refine seqQ_normal ?_
        | refine J_condT rfl ?_
        | refine J_condF rfl ?_
        | refine J_block ?_
        | refine blockQ_normal ?_
        | refine J_exit ?_
        | refine seqQ_exit ?_
        | refine blockQ_hit ?_
        | refine blockQ_miss rfl ?_
        | refine J_skip ?_
        | refine J_ret ?_
        | refine seqQ_ret ?_
        | refine blockQ_ret ?_
        | refine loopQ_exit ?_
        | refine loopQ_ret ?_
        | refine J_label ?_
      repeat first
        | refine J_seq ?_
        | refine seqQ_normal ?_
        | refine J_condT rfl ?_
        | refine J_condF rfl ?_
        | refine J_block ?_
        | refine blockQ_normal ?_
        | refine J_exit ?_
        | refine seqQ_exit ?_
        | refine blockQ_hit ?_
        | refine blockQ_miss rfl ?_
        | refine J_skip ?_
        | refine J_ret ?_
        | refine seqQ_ret ?_
        | refine blockQ_ret ?_
        | refine loopQ_exit ?_
        | refine loopQ_ret ?_
        | refine J_label ?_
      refine J_region ?_
      refine L_q (Q_move rfl) rfl rfl rfl ?_
      refine L_q (Q_geq rfl rfl) rfl rfl rfl ?_
      refine JL_nil ?_
      repeat first
        | refine J_seq ?_
        | refine seqQ_normal ?_
        | refine J_condT rfl ?_
        | refine J_condF rfl ?_
        | refine J_block ?_
        | refine blockQ_normal ?_
        | refine J_exit ?_
        | refine seqQ_exit ?_
        | refine blockQ_hit ?_
        | refine blockQ_miss rfl ?_
        | refine J_skip ?_
        | refine J_ret ?_
        | refine seqQ_ret ?_
        | refine blockQ_ret ?_
        | refine loopQ_exit ?_
        | refine loopQ_ret ?_
        | refine J_label ?_
      repeat first
        | refine J_seq ?_
        | refine seqQ_normal ?_
        | refine J_condT rfl ?_
        | refine J_condF rfl ?_
        | refine J_block ?_
        | refine blockQ_normal ?_
        | refine J_exit ?_
        | refine seqQ_exit ?_
        | refine blockQ_hit ?_
        | refine blockQ_miss rfl ?_
        | refine J_skip ?_
        | refine J_ret ?_
        | refine seqQ_ret ?_
        | refine blockQ_ret ?_
        | refine loopQ_exit ?_
        | refine loopQ_ret ?_
        | refine J_label ?_
      refine J_region ?_
      refine L_q (Q_move rfl) rfl rfl rfl ?_
      refine L_q (Q_move rfl) rfl rfl rfl ?_
      first
        | refine L_q (Q_pnil rfl) rfl rfl rfl ?_
        | refine L_q (Q_nilCheck rfl) rfl rfl rfl ?_
      first
        | refine L_q (Q_fa0 rfl) rfl rfl rfl ?_
        | refine L_q (Q_fa rfl rfl) rfl rfl rfl ?_
        | refine L_q (Q_pfa rfl) rfl rfl rfl ?_
      refine L_q (Q_ia (o' := 0) 0 rfl rfl rfl (by decide) (by decide)) rfl rfl rfl ?_
      first
        | refine L_q (Q_ldA 0 rfl rfl rfl) rfl rfl rfl ?_
        | refine L_q (Q_ldA 1 rfl rfl rfl) rfl rfl rfl ?_
        | refine L_q (Q_ldA 2 rfl rfl rfl) rfl rfl rfl ?_
        | refine L_q (Q_ldA 3 rfl rfl rfl) rfl rfl rfl ?_
        | refine L_q (Q_ldA 4 rfl rfl rfl) rfl rfl rfl ?_
      refine L_o rfl rfl rfl (O_call [1] [0,2,3] (words_ok E S a hl) rfl rfl ?_)
      rintro _ _ ⟨rfl, rfl⟩
      refine JL.norm ?_
      refine L_q (Q_aiS (v' := .int .u32 (nw a 1 : Int)) 1 rfl rfl rfl (by decide) rfl rfl) rfl rfl rfl ?_
      refine L_q (Q_assign rfl) rfl rfl rfl ?_
      refine JL_nil ?_
      repeat first
        | refine J_seq ?_
        | refine seqQ_normal ?_
        | refine J_condT rfl ?_
        | refine J_condF rfl ?_
        | refine J_block ?_
        | refine blockQ_normal ?_
        | refine J_exit ?_
        | refine seqQ_exit ?_
        | refine blockQ_hit ?_
        | refine blockQ_miss rfl ?_
        | refine J_skip ?_
        | refine J_ret ?_
        | refine seqQ_ret ?_
        | refine blockQ_ret ?_
        | refine loopQ_exit ?_
        | refine loopQ_ret ?_
        | refine J_label ?_
      obtain ⟨g, hgv⟩ : ∃ g : Nat, g = nw a 1 := ⟨_, rfl⟩
      have hgg : (if told a b = 1 then nw b 1 else if told a b = 0 then nw a 1 else 0) = g := by rw [if_neg (by omega), if_pos e, hgv]
      rw [← hgv]
      repeat first
        | refine J_seq ?_
        | refine seqQ_normal ?_
        | refine J_condT rfl ?_
        | refine J_condF rfl ?_
        | refine J_block ?_
        | refine blockQ_normal ?_
        | refine J_exit ?_
        | refine seqQ_exit ?_
        | refine blockQ_hit ?_
        | refine blockQ_miss rfl ?_
        | refine J_skip ?_
        | refine J_ret ?_
        | refine seqQ_ret ?_
        | refine blockQ_ret ?_
        | refine loopQ_exit ?_
        | refine loopQ_ret ?_
        | refine J_label ?_
      refine J_region ?_
      refine L_q (Q_move rfl) rfl rfl rfl ?_
      refine L_q (Q_addN g 1 rfl rfl rfl rfl) rfl rfl rfl ?_
      refine L_o rfl rfl rfl (O_call [] [0,1,2,3] (four_ok E ((g + 1) % 2 ^ 32)) rfl rfl ?_)
      rintro _ _ ⟨S1, rfl, rfl⟩
      refine JL.norm ?_
      refine L_q (Q_move rfl) rfl rfl rfl ?_
      refine L_q (Q_slen rfl) rfl rfl rfl ?_
      refine L_q (Q_cvtN body.length rfl rfl) rfl rfl rfl ?_
      refine L_o rfl rfl rfl (O_call [] [0,1,2,3,4] (four_ok E (body.length % 2 ^ 32)) rfl rfl ?_)
      rintro _ _ ⟨S2, rfl, rfl⟩
      refine JL.norm ?_
      refine L_o rfl rfl rfl (O_app (τ := tB) 1 rfl (fun w h => h.rd 0 rfl) rfl rfl rfl rfl (by simp [four]) (by decide) (fun S3 => ?_))
      refine JL.norm ?_
      refine L_q (Q_assign rfl) rfl rfl rfl ?_
      refine JL_nil ?_
      repeat first
        | refine J_seq ?_
        | refine seqQ_normal ?_
        | refine J_condT rfl ?_
        | refine J_condF rfl ?_
        | refine J_block ?_
        | refine blockQ_normal ?_
        | refine J_exit ?_
        | refine seqQ_exit ?_
        | refine blockQ_hit ?_
        | refine blockQ_miss rfl ?_
        | refine J_skip ?_
        | refine J_ret ?_
        | refine seqQ_ret ?_
        | refine blockQ_ret ?_
        | refine loopQ_exit ?_
        | refine loopQ_ret ?_
        | refine J_label ?_
      repeat first
        | refine J_seq ?_
        | refine seqQ_normal ?_
        | refine J_condT rfl ?_
        | refine J_condF rfl ?_
        | refine J_block ?_
        | refine blockQ_normal ?_
        | refine J_exit ?_
        | refine seqQ_exit ?_
        | refine blockQ_hit ?_
        | refine blockQ_miss rfl ?_
        | refine J_skip ?_
        | refine J_ret ?_
        | refine seqQ_ret ?_
        | refine blockQ_ret ?_
        | refine loopQ_exit ?_
        | refine loopQ_ret ?_
        | refine J_label ?_
      refine J_region ?_
      refine L_q (Q_move rfl) rfl rfl rfl ?_
      refine L_q (Q_move rfl) rfl rfl rfl ?_
      refine L_o rfl rfl rfl (O_appS tB_enc 1 rfl rfl rfl rfl rfl (by simp [four]; omega) (by decide) (fun S4 => ?_))
      refine JL.norm ?_
      refine L_q (Q_assign rfl) rfl rfl rfl ?_
      refine JL_nil ?_
      repeat first
        | refine J_seq ?_
        | refine seqQ_normal ?_
        | refine J_condT rfl ?_
        | refine J_condF rfl ?_
        | refine J_block ?_
        | refine blockQ_normal ?_
        | refine J_exit ?_
        | refine seqQ_exit ?_
        | refine blockQ_hit ?_
        | refine blockQ_miss rfl ?_
        | refine J_skip ?_
        | refine J_ret ?_
        | refine seqQ_ret ?_
        | refine blockQ_ret ?_
        | refine loopQ_exit ?_
        | refine loopQ_ret ?_
        | refine J_label ?_
      repeat first
        | refine J_seq ?_
        | refine seqQ_normal ?_
        | refine J_condT rfl ?_
        | refine J_condF rfl ?_
        | refine J_block ?_
        | refine blockQ_normal ?_
        | refine J_exit ?_
        | refine seqQ_exit ?_
        | refine blockQ_hit ?_
        | refine blockQ_miss rfl ?_
        | refine J_skip ?_
        | refine J_ret ?_
        | refine seqQ_ret ?_
        | refine blockQ_ret ?_
        | refine loopQ_exit ?_
        | refine loopQ_ret ?_
        | refine J_label ?_
      refine J_region ?_
      refine L_q (Q_move rfl) rfl rfl rfl ?_
      refine L_q (Q_b2s tB_enc (fun w h => h.rd 1 rfl) rfl) rfl rfl rfl ?_
      refine L_o rfl rfl rfl (O_call [] [0,1,2,3,4,5] (sum_ok E _ (by simp [four]; omega)) rfl rfl ?_)
      rintro _ _ ⟨rfl, rfl⟩
      refine JL.norm ?_
      refine L_o rfl rfl rfl (O_call [] [0,1,2,3,4,5] (four_ok E _) rfl rfl ?_)
      rintro _ _ ⟨S5, rfl, rfl⟩
      refine JL.norm ?_
      refine L_q (Q_move rfl) rfl rfl rfl ?_
      refine L_o rfl rfl rfl (O_app (τ := tB) 0 rfl (fun w h => h.rd 2 rfl) rfl rfl rfl rfl (by simp [four]; omega) (by decide) (fun S6 => ?_))
      refine JL.norm ?_
      refine L_q (Q_assign rfl) rfl rfl rfl ?_
      refine JL_nil ?_
      repeat first
        | refine J_seq ?_
        | refine seqQ_normal ?_
        | refine J_condT rfl ?_
        | refine J_condF rfl ?_
        | refine J_block ?_
        | refine blockQ_normal ?_
        | refine J_exit ?_
        | refine seqQ_exit ?_
        | refine blockQ_hit ?_
        | refine blockQ_miss rfl ?_
        | refine J_skip ?_
        | refine J_ret ?_
        | refine seqQ_ret ?_
        | refine blockQ_ret ?_
        | refine loopQ_exit ?_
        | refine loopQ_ret ?_
        | refine J_label ?_
      have hwr : wrote a b body upto = if 0 ≤ upto ∧ upto < ((four (crc (four ((g + 1) % 2 ^ 32) ++ four (body.length % 2 ^ 32) ++ body)) ++ (four ((g + 1) % 2 ^ 32) ++ four (body.length % 2 ^ 32) ++ body)).length : Int) then (four (crc (four ((g + 1) % 2 ^ 32) ++ four (body.length % 2 ^ 32) ++ body)) ++ (four ((g + 1) % 2 ^ 32) ++ four (body.length % 2 ^ 32) ++ body)).take upto.toNat else four (crc (four ((g + 1) % 2 ^ 32) ++ four (body.length % 2 ^ 32) ++ body)) ++ (four ((g + 1) % 2 ^ 32) ++ four (body.length % 2 ^ 32) ++ body) := by simp only [wrote, hgg]
      generalize four (crc (four ((g + 1) % 2 ^ 32) ++ four (body.length % 2 ^ 32) ++ body)) ++ (four ((g + 1) % 2 ^ 32) ++ four (body.length % 2 ^ 32) ++ body) = u at hwr ⊢
      by_cases hu0 : 0 ≤ upto
      · by_cases hu1 : upto < (u.length : Int)
        · obtain ⟨m, rfl⟩ : ∃ m : Nat, upto = (m : Int) := ⟨upto.toNat, by omega⟩
          have hm : m ≤ u.length := by omega
          rw [if_pos ⟨hu0, hu1⟩, Int.toNat_natCast] at hwr
          repeat first
            | refine J_seq ?_
            | refine seqQ_normal ?_
            | refine J_condT rfl ?_
            | refine J_condF rfl ?_
            | refine J_block ?_
            | refine blockQ_normal ?_
            | refine J_exit ?_
            | refine seqQ_exit ?_
            | refine blockQ_hit ?_
            | refine blockQ_miss rfl ?_
            | refine J_skip ?_
            | refine J_ret ?_
            | refine seqQ_ret ?_
            | refine blockQ_ret ?_
            | refine loopQ_exit ?_
            | refine loopQ_ret ?_
            | refine J_label ?_
          refine J_region ?_
          refine L_q (Q_move rfl) rfl rfl rfl ?_
          refine L_q ((Q_geq rfl rfl).as (v' := .bool true) (congrArg Value.bool (decide_eq_true hu0))) rfl rfl rfl ?_
          refine L_q (Q_move rfl) rfl rfl rfl ?_
          refine L_q (Q_move rfl) rfl rfl rfl ?_
          refine L_q (Q_move rfl) rfl rfl rfl ?_
          first
            | refine L_q (Q_lenAt 0 rfl rfl) rfl rfl rfl ?_
            | refine L_q (Q_lenAt 1 rfl rfl) rfl rfl rfl ?_
            | refine L_q (Q_lenAt 2 rfl rfl) rfl rfl rfl ?_
            | refine L_q (Q_lenAt 3 rfl rfl) rfl rfl rfl ?_
            | refine L_q (Q_lenAt 4 rfl rfl) rfl rfl rfl ?_
          refine L_q ((Q_lss rfl rfl).as (v' := .bool true) (congrArg Value.bool (decide_eq_true hu1))) rfl rfl rfl ?_
          first
            | refine L_q (Q_pickT rfl rfl) rfl rfl rfl ?_
            | refine L_q (Q_pickF rfl rfl) rfl rfl rfl ?_
            | refine L_q (Q_pickB rfl rfl rfl) rfl rfl rfl ?_
          refine JL_nil ?_
          repeat first
            | refine J_seq ?_
            | refine seqQ_normal ?_
            | refine J_condT rfl ?_
            | refine J_condF rfl ?_
            | refine J_block ?_
            | refine blockQ_normal ?_
            | refine J_exit ?_
            | refine seqQ_exit ?_
            | refine blockQ_hit ?_
            | refine blockQ_miss rfl ?_
            | refine J_skip ?_
            | refine J_ret ?_
            | refine seqQ_ret ?_
            | refine blockQ_ret ?_
            | refine loopQ_exit ?_
            | refine loopQ_ret ?_
            | refine J_label ?_
          repeat first
            | refine J_seq ?_
            | refine seqQ_normal ?_
            | refine J_condT rfl ?_
            | refine J_condF rfl ?_
            | refine J_block ?_
            | refine blockQ_normal ?_
            | refine J_exit ?_
            | refine seqQ_exit ?_
            | refine blockQ_hit ?_
            | refine blockQ_miss rfl ?_
            | refine J_skip ?_
            | refine J_ret ?_
            | refine seqQ_ret ?_
            | refine blockQ_ret ?_
            | refine loopQ_exit ?_
            | refine loopQ_ret ?_
            | refine J_label ?_
          refine J_region ?_
          refine L_q (Q_move rfl) rfl rfl rfl ?_
          refine L_q (Q_move rfl) rfl rfl rfl ?_
          refine L_q (Q_slH m (fun w h => h.rd 0 rfl) rfl rfl rfl hm rfl) rfl rfl rfl ?_
          refine L_q (Q_assign rfl) rfl rfl rfl ?_
          refine JL_nil ?_
          repeat first
            | refine J_seq ?_
            | refine seqQ_normal ?_
            | refine J_condT rfl ?_
            | refine J_condF rfl ?_
            | refine J_block ?_
            | refine blockQ_normal ?_
            | refine J_exit ?_
            | refine seqQ_exit ?_
            | refine blockQ_hit ?_
            | refine blockQ_miss rfl ?_
            | refine J_skip ?_
            | refine J_ret ?_
            | refine seqQ_ret ?_
            | refine blockQ_ret ?_
            | refine loopQ_exit ?_
            | refine loopQ_ret ?_
            | refine J_label ?_
          repeat first
            | refine J_seq ?_
            | refine seqQ_normal ?_
            | refine J_condT rfl ?_
            | refine J_condF rfl ?_
            | refine J_block ?_
            | refine blockQ_normal ?_
            | refine J_exit ?_
            | refine seqQ_exit ?_
            | refine blockQ_hit ?_
            | refine blockQ_miss rfl ?_
            | refine J_skip ?_
            | refine J_ret ?_
            | refine seqQ_ret ?_
            | refine blockQ_ret ?_
            | refine loopQ_exit ?_
            | refine loopQ_ret ?_
            | refine J_label ?_
          refine J_region ?_
          refine L_q (Q_move rfl) rfl rfl rfl ?_
          refine L_q (Q_eql rfl rfl) rfl rfl rfl ?_
          refine JL_nil ?_
          repeat first
            | refine J_seq ?_
            | refine seqQ_normal ?_
            | refine J_condT rfl ?_
            | refine J_condF rfl ?_
            | refine J_block ?_
            | refine blockQ_normal ?_
            | refine J_exit ?_
            | refine seqQ_exit ?_
            | refine blockQ_hit ?_
            | refine blockQ_miss rfl ?_
            | refine J_skip ?_
            | refine J_ret ?_
            | refine seqQ_ret ?_
            | refine blockQ_ret ?_
            | refine loopQ_exit ?_
            | refine loopQ_ret ?_
            | refine J_label ?_
          repeat first
            | refine J_seq ?_
            | refine seqQ_normal ?_
            | refine J_condT rfl ?_
            | refine J_condF rfl ?_
            | refine J_block ?_
            | refine blockQ_normal ?_
            | refine J_exit ?_
            | refine seqQ_exit ?_
            | refine blockQ_hit ?_
            | refine blockQ_miss rfl ?_
            | refine J_skip ?_
            | refine J_ret ?_
            | refine seqQ_ret ?_
            | refine blockQ_ret ?_
            | refine loopQ_exit ?_
            | refine loopQ_ret ?_
            | refine J_label ?_
          refine J_region ?_
          refine L_q (Q_move rfl) rfl rfl rfl ?_
          refine L_q (Q_move rfl) rfl rfl rfl ?_
          refine L_q (Q_build rfl) rfl rfl rfl ?_
          first
            | refine L_q (Q_pnil rfl) rfl rfl rfl ?_
            | refine L_q (Q_nilCheck rfl) rfl rfl rfl ?_
          first
            | refine L_q (Q_fa0 rfl) rfl rfl rfl ?_
            | refine L_q (Q_fa rfl rfl) rfl rfl rfl ?_
            | refine L_q (Q_pfa rfl) rfl rfl rfl ?_
          refine L_q (Q_ia (o' := 1) 1 rfl rfl rfl (by decide) (by decide)) rfl rfl rfl ?_
          refine L_s rfl rfl (O_st (sz := 1) (cs' := [S.v, (SV.sub S6 tB.sz 0 m).v]) 4 rfl rfl rfl rfl rfl (by simp [Value.oneCell', Value.cells]) (by simp) rfl ?_)
          refine JL.norm ?_
          refine JL_nil ?_
          repeat first
            | refine J_seq ?_
            | refine seqQ_normal ?_
            | refine J_condT rfl ?_
            | refine J_condF rfl ?_
            | refine J_block ?_
            | refine blockQ_normal ?_
            | refine J_exit ?_
            | refine seqQ_exit ?_
            | refine blockQ_hit ?_
            | refine blockQ_miss rfl ?_
            | refine J_skip ?_
            | refine J_ret ?_
            | refine seqQ_ret ?_
            | refine blockQ_ret ?_
            | refine loopQ_exit ?_
            | refine loopQ_ret ?_
            | refine J_label ?_
          repeat first
            | refine J_seq ?_
            | refine seqQ_normal ?_
            | refine J_condT rfl ?_
            | refine J_condF rfl ?_
            | refine J_block ?_
            | refine blockQ_normal ?_
            | refine J_exit ?_
            | refine seqQ_exit ?_
            | refine blockQ_hit ?_
            | refine blockQ_miss rfl ?_
            | refine J_skip ?_
            | refine J_ret ?_
            | refine seqQ_ret ?_
            | refine blockQ_ret ?_
            | refine loopQ_exit ?_
            | refine loopQ_ret ?_
            | refine J_label ?_
          refine J_region ?_
          refine L_q (Q_assign rfl) rfl rfl rfl ?_
          refine JL_nil ?_
          repeat first
            | refine J_seq ?_
            | refine seqQ_normal ?_
            | refine J_condT rfl ?_
            | refine J_condF rfl ?_
            | refine J_block ?_
            | refine blockQ_normal ?_
            | refine J_exit ?_
            | refine seqQ_exit ?_
            | refine blockQ_hit ?_
            | refine blockQ_miss rfl ?_
            | refine J_skip ?_
            | refine J_ret ?_
            | refine seqQ_ret ?_
            | refine blockQ_ret ?_
            | refine loopQ_exit ?_
            | refine loopQ_ret ?_
            | refine J_label ?_
          refine retQ_ret _ [cel p [S.v, (SV.sub S6 tB.sz 0 m).v] 59, slc tB true S a, slc tB true (SV.sub S6 tB.sz 0 m) ((u.take m).drop 0)] (.cons (RV_tmp rfl) .nil) ⟨S, (SV.sub S6 tB.sz 0 m), by simp only [hdo]; first | done | rfl, by simp only [hdo, hwr]; first | done | rfl⟩ ?_
          exact (Ent.sub 0 0 m rfl (Nat.zero_le _) hm).trans (Ent.re [4,3,0,6] rfl)
        · rw [if_neg (fun h => hu1 h.2)] at hwr
          repeat first
            | refine J_seq ?_
            | refine seqQ_normal ?_
            | refine J_condT rfl ?_
            | refine J_condF rfl ?_
            | refine J_block ?_
            | refine blockQ_normal ?_
            | refine J_exit ?_
            | refine seqQ_exit ?_
            | refine blockQ_hit ?_
            | refine blockQ_miss rfl ?_
            | refine J_skip ?_
            | refine J_ret ?_
            | refine seqQ_ret ?_
            | refine blockQ_ret ?_
            | refine loopQ_exit ?_
            | refine loopQ_ret ?_
            | refine J_label ?_
          refine J_region ?_
          refine L_q (Q_move rfl) rfl rfl rfl ?_
          refine L_q ((Q_geq rfl rfl).as (v' := .bool true) (congrArg Value.bool (decide_eq_true hu0))) rfl rfl rfl ?_
          refine L_q (Q_move rfl) rfl rfl rfl ?_
          refine L_q (Q_move rfl) rfl rfl rfl ?_
          refine L_q (Q_move rfl) rfl rfl rfl ?_
          first
            | refine L_q (Q_lenAt 0 rfl rfl) rfl rfl rfl ?_
            | refine L_q (Q_lenAt 1 rfl rfl) rfl rfl rfl ?_
            | refine L_q (Q_lenAt 2 rfl rfl) rfl rfl rfl ?_
            | refine L_q (Q_lenAt 3 rfl rfl) rfl rfl rfl ?_
            | refine L_q (Q_lenAt 4 rfl rfl) rfl rfl rfl ?_
          refine L_q ((Q_lss rfl rfl).as (v' := .bool false) (congrArg Value.bool (decide_eq_false hu1))) rfl rfl rfl ?_
          first
            | refine L_q (Q_pickT rfl rfl) rfl rfl rfl ?_
            | refine L_q (Q_pickF rfl rfl) rfl rfl rfl ?_
            | refine L_q (Q_pickB rfl rfl rfl) rfl rfl rfl ?_
          refine JL_nil ?_
          repeat first
            | refine J_seq ?_
            | refine seqQ_normal ?_
            | refine J_condT rfl ?_
            | refine J_condF rfl ?_
            | refine J_block ?_
            | refine blockQ_normal ?_
            | refine J_exit ?_
            | refine seqQ_exit ?_
            | refine blockQ_hit ?_
            | refine blockQ_miss rfl ?_
            | refine J_skip ?_
            | refine J_ret ?_
            | refine seqQ_ret ?_
            | refine blockQ_ret ?_
            | refine loopQ_exit ?_
            | refine loopQ_ret ?_
            | refine J_label ?_
          repeat first
            | refine J_seq ?_
            | refine seqQ_normal ?_
            | refine J_condT rfl ?_
            | refine J_condF rfl ?_
            | refine J_block ?_
            | refine blockQ_normal ?_
            | refine J_exit ?_
            | refine seqQ_exit ?_
            | refine blockQ_hit ?_
            | refine blockQ_miss rfl ?_
            | refine J_skip ?_
            | refine J_ret ?_
            | refine seqQ_ret ?_
            | refine blockQ_ret ?_
            | refine loopQ_exit ?_
            | refine loopQ_ret ?_
            | refine J_label ?_
          refine J_region ?_
          refine L_q (Q_move rfl) rfl rfl rfl ?_
          refine L_q (Q_eql rfl rfl) rfl rfl rfl ?_
          refine JL_nil ?_
          repeat first
            | refine J_seq ?_
            | refine seqQ_normal ?_
            | refine J_condT rfl ?_
            | refine J_condF rfl ?_
            | refine J_block ?_
            | refine blockQ_normal ?_
            | refine J_exit ?_
            | refine seqQ_exit ?_
            | refine blockQ_hit ?_
            | refine blockQ_miss rfl ?_
            | refine J_skip ?_
            | refine J_ret ?_
            | refine seqQ_ret ?_
            | refine blockQ_ret ?_
            | refine loopQ_exit ?_
            | refine loopQ_ret ?_
            | refine J_label ?_
          repeat first
            | refine J_seq ?_
            | refine seqQ_normal ?_
            | refine J_condT rfl ?_
            | refine J_condF rfl ?_
            | refine J_block ?_
            | refine blockQ_normal ?_
            | refine J_exit ?_
            | refine seqQ_exit ?_
            | refine blockQ_hit ?_
            | refine blockQ_miss rfl ?_
            | refine J_skip ?_
            | refine J_ret ?_
            | refine seqQ_ret ?_
            | refine blockQ_ret ?_
            | refine loopQ_exit ?_
            | refine loopQ_ret ?_
            | refine J_label ?_
          refine J_region ?_
          refine L_q (Q_move rfl) rfl rfl rfl ?_
          refine L_q (Q_move rfl) rfl rfl rfl ?_
          refine L_q (Q_build rfl) rfl rfl rfl ?_
          first
            | refine L_q (Q_pnil rfl) rfl rfl rfl ?_
            | refine L_q (Q_nilCheck rfl) rfl rfl rfl ?_
          first
            | refine L_q (Q_fa0 rfl) rfl rfl rfl ?_
            | refine L_q (Q_fa rfl rfl) rfl rfl rfl ?_
            | refine L_q (Q_pfa rfl) rfl rfl rfl ?_
          refine L_q (Q_ia (o' := 1) 1 rfl rfl rfl (by decide) (by decide)) rfl rfl rfl ?_
          refine L_s rfl rfl (O_st (sz := 1) (cs' := [S.v, S6.v]) 4 rfl rfl rfl rfl rfl (by simp [Value.oneCell', Value.cells]) (by simp) rfl ?_)
          refine JL.norm ?_
          refine JL_nil ?_
          repeat first
            | refine J_seq ?_
            | refine seqQ_normal ?_
            | refine J_condT rfl ?_
            | refine J_condF rfl ?_
            | refine J_block ?_
            | refine blockQ_normal ?_
            | refine J_exit ?_
            | refine seqQ_exit ?_
            | refine blockQ_hit ?_
            | refine blockQ_miss rfl ?_
            | refine J_skip ?_
            | refine J_ret ?_
            | refine seqQ_ret ?_
            | refine blockQ_ret ?_
            | refine loopQ_exit ?_
            | refine loopQ_ret ?_
            | refine J_label ?_
          repeat first
            | refine J_seq ?_
            | refine seqQ_normal ?_
            | refine J_condT rfl ?_
            | refine J_condF rfl ?_
            | refine J_block ?_
            | refine blockQ_normal ?_
            | refine J_exit ?_
            | refine seqQ_exit ?_
            | refine blockQ_hit ?_
            | refine blockQ_miss rfl ?_
            | refine J_skip ?_
            | refine J_ret ?_
            | refine seqQ_ret ?_
            | refine blockQ_ret ?_
            | refine loopQ_exit ?_
            | refine loopQ_ret ?_
            | refine J_label ?_
          refine J_region ?_
          refine L_q (Q_assign rfl) rfl rfl rfl ?_
          refine JL_nil ?_
          repeat first
            | refine J_seq ?_
            | refine seqQ_normal ?_
            | refine J_condT rfl ?_
            | refine J_condF rfl ?_
            | refine J_block ?_
            | refine blockQ_normal ?_
            | refine J_exit ?_
            | refine seqQ_exit ?_
            | refine blockQ_hit ?_
            | refine blockQ_miss rfl ?_
            | refine J_skip ?_
            | refine J_ret ?_
            | refine seqQ_ret ?_
            | refine blockQ_ret ?_
            | refine loopQ_exit ?_
            | refine loopQ_ret ?_
            | refine J_label ?_
          exact retQ_ret _ [cel p [S.v, S6.v] 59, slc tB true S a, slc tB true S6 u] (.cons (RV_tmp rfl) .nil) ⟨S, S6, by simp only [hdo]; first | done | rfl, by simp only [hdo, hwr]; first | done | rfl⟩ (Ent.re [4,3,0,6] rfl)
      · rw [if_neg (fun h => hu0 h.1)] at hwr
        repeat first
          | refine J_seq ?_
          | refine seqQ_normal ?_
          | refine J_condT rfl ?_
          | refine J_condF rfl ?_
          | refine J_block ?_
          | refine blockQ_normal ?_
          | refine J_exit ?_
          | refine seqQ_exit ?_
          | refine blockQ_hit ?_
          | refine blockQ_miss rfl ?_
          | refine J_skip ?_
          | refine J_ret ?_
          | refine seqQ_ret ?_
          | refine blockQ_ret ?_
          | refine loopQ_exit ?_
          | refine loopQ_ret ?_
          | refine J_label ?_
        refine J_region ?_
        refine L_q (Q_move rfl) rfl rfl rfl ?_
        refine L_q ((Q_geq rfl rfl).as (v' := .bool false) (congrArg Value.bool (decide_eq_false hu0))) rfl rfl rfl ?_
        refine L_q (Q_move rfl) rfl rfl rfl ?_
        refine L_n rfl rfl rfl ?_
        refine L_n rfl rfl rfl ?_
        refine L_n rfl rfl rfl ?_
        refine L_n rfl rfl rfl ?_
        first
          | refine L_q (Q_pickT rfl rfl) rfl rfl rfl ?_
          | refine L_q (Q_pickF rfl rfl) rfl rfl rfl ?_
          | refine L_q (Q_pickB rfl rfl rfl) rfl rfl rfl ?_
        refine JL_nil ?_
        repeat first
          | refine J_seq ?_
          | refine seqQ_normal ?_
          | refine J_condT rfl ?_
          | refine J_condF rfl ?_
          | refine J_block ?_
          | refine blockQ_normal ?_
          | refine J_exit ?_
          | refine seqQ_exit ?_
          | refine blockQ_hit ?_
          | refine blockQ_miss rfl ?_
          | refine J_skip ?_
          | refine J_ret ?_
          | refine seqQ_ret ?_
          | refine blockQ_ret ?_
          | refine loopQ_exit ?_
          | refine loopQ_ret ?_
          | refine J_label ?_
        repeat first
          | refine J_seq ?_
          | refine seqQ_normal ?_
          | refine J_condT rfl ?_
          | refine J_condF rfl ?_
          | refine J_block ?_
          | refine blockQ_normal ?_
          | refine J_exit ?_
          | refine seqQ_exit ?_
          | refine blockQ_hit ?_
          | refine blockQ_miss rfl ?_
          | refine J_skip ?_
          | refine J_ret ?_
          | refine seqQ_ret ?_
          | refine blockQ_ret ?_
          | refine loopQ_exit ?_
          | refine loopQ_ret ?_
          | refine J_label ?_
        refine J_region ?_
        refine L_q (Q_move rfl) rfl rfl rfl ?_
        refine L_q (Q_eql rfl rfl) rfl rfl rfl ?_
        refine JL_nil ?_
        repeat first
          | refine J_seq ?_
          | refine seqQ_normal ?_
          | refine J_condT rfl ?_
          | refine J_condF rfl ?_
          | refine J_block ?_
          | refine blockQ_normal ?_
          | refine J_exit ?_
          | refine seqQ_exit ?_
          | refine blockQ_hit ?_
          | refine blockQ_miss rfl ?_
          | refine J_skip ?_
          | refine J_ret ?_
          | refine seqQ_ret ?_
          | refine blockQ_ret ?_
          | refine loopQ_exit ?_
          | refine loopQ_ret ?_
          | refine J_label ?_
        repeat first
          | refine J_seq ?_
          | refine seqQ_normal ?_
          | refine J_condT rfl ?_
          | refine J_condF rfl ?_
          | refine J_block ?_
          | refine blockQ_normal ?_
          | refine J_exit ?_
          | refine seqQ_exit ?_
          | refine blockQ_hit ?_
          | refine blockQ_miss rfl ?_
          | refine J_skip ?_
          | refine J_ret ?_
          | refine seqQ_ret ?_
          | refine blockQ_ret ?_
          | refine loopQ_exit ?_
          | refine loopQ_ret ?_
          | refine J_label ?_
        refine J_region ?_
        refine L_q (Q_move rfl) rfl rfl rfl ?_
        refine L_q (Q_move rfl) rfl rfl rfl ?_
        refine L_q (Q_build rfl) rfl rfl rfl ?_
        first
          | refine L_q (Q_pnil rfl) rfl rfl rfl ?_
          | refine L_q (Q_nilCheck rfl) rfl rfl rfl ?_
        first
          | refine L_q (Q_fa0 rfl) rfl rfl rfl ?_
          | refine L_q (Q_fa rfl rfl) rfl rfl rfl ?_
          | refine L_q (Q_pfa rfl) rfl rfl rfl ?_
        refine L_q (Q_ia (o' := 1) 1 rfl rfl rfl (by decide) (by decide)) rfl rfl rfl ?_
        refine L_s rfl rfl (O_st (sz := 1) (cs' := [S.v, S6.v]) 4 rfl rfl rfl rfl rfl (by simp [Value.oneCell', Value.cells]) (by simp) rfl ?_)
        refine JL.norm ?_
        refine JL_nil ?_
        repeat first
          | refine J_seq ?_
          | refine seqQ_normal ?_
          | refine J_condT rfl ?_
          | refine J_condF rfl ?_
          | refine J_block ?_
          | refine blockQ_normal ?_
          | refine J_exit ?_
          | refine seqQ_exit ?_
          | refine blockQ_hit ?_
          | refine blockQ_miss rfl ?_
          | refine J_skip ?_
          | refine J_ret ?_
          | refine seqQ_ret ?_
          | refine blockQ_ret ?_
          | refine loopQ_exit ?_
          | refine loopQ_ret ?_
          | refine J_label ?_
        repeat first
          | refine J_seq ?_
          | refine seqQ_normal ?_
          | refine J_condT rfl ?_
          | refine J_condF rfl ?_
          | refine J_block ?_
          | refine blockQ_normal ?_
          | refine J_exit ?_
          | refine seqQ_exit ?_
          | refine blockQ_hit ?_
          | refine blockQ_miss rfl ?_
          | refine J_skip ?_
          | refine J_ret ?_
          | refine seqQ_ret ?_
          | refine blockQ_ret ?_
          | refine loopQ_exit ?_
          | refine loopQ_ret ?_
          | refine J_label ?_
        refine J_region ?_
        refine L_q (Q_assign rfl) rfl rfl rfl ?_
        refine JL_nil ?_
        repeat first
          | refine J_seq ?_
          | refine seqQ_normal ?_
          | refine J_condT rfl ?_
          | refine J_condF rfl ?_
          | refine J_block ?_
          | refine blockQ_normal ?_
          | refine J_exit ?_
          | refine seqQ_exit ?_
          | refine blockQ_hit ?_
          | refine blockQ_miss rfl ?_
          | refine J_skip ?_
          | refine J_ret ?_
          | refine seqQ_ret ?_
          | refine blockQ_ret ?_
          | refine loopQ_exit ?_
          | refine loopQ_ret ?_
          | refine J_label ?_
        exact retQ_ret _ [cel p [S.v, S6.v] 59, slc tB true S a, slc tB true S6 u] (.cons (RV_tmp rfl) .nil) ⟨S, S6, by simp only [hdo]; first | done | rfl, by simp only [hdo, hwr]; first | done | rfl⟩ (Ent.re [4,3,0,6] rfl)
    · rw [e] at ht
      have hdo : doW a b body upto = (wrote a b body upto, b, 0) := by rw [hd0, if_neg (by omega)]
      repeat first
        | refine J_seq ?_
        | refine seqQ_normal ?_
        | refine J_condT rfl ?_
        | refine J_condF rfl ?_
        | refine J_block ?_
        | refine blockQ_normal ?_
        | refine J_exit ?_
        | refine seqQ_exit ?_
        | refine blockQ_hit ?_
        | refine blockQ_miss rfl ?_
        | refine J_skip ?_
        | refine J_ret ?_
        | refine seqQ_ret ?_
        | refine blockQ_ret ?_
        | refine loopQ_exit ?_
        | refine loopQ_ret ?_
        | refine J_label ?_
      refine J_region ?_
      refine L_q (Q_move rfl) rfl rfl rfl ?_
      refine L_o rfl rfl rfl (O_call [0,1,2] [3] ht rfl rfl ?_)
      rintro _ _ ⟨rfl, rfl⟩
      refine JL.norm ?_
      refine L_q (Q_assign rfl) rfl rfl rfl ?_
      refine L_q (Q_assign rfl) rfl rfl rfl ?_
      refine JL_nil ?_
      repeat first
        | refine J_seq ?_
        | refine seqQ_normal ?_
        | refine J_condT rfl ?_
        | refine J_condF rfl ?_
        | refine J_block ?_
        | refine blockQ_normal ?_
        | refine J_exit ?_
        | refine seqQ_exit ?_
        | refine blockQ_hit ?_
        | refine blockQ_miss rfl ?_
        | refine J_skip ?_
        | refine J_ret ?_
        | refine seqQ_ret ?_
        | refine blockQ_ret ?_
        | refine loopQ_exit ?_
        | refine loopQ_ret ?_
        | refine J_label ?_
      repeat first
        | refine J_seq ?_
        | refine seqQ_normal ?_
        | refine J_condT rfl ?_
        | refine J_condF rfl ?_
        | refine J_block ?_
        | refine blockQ_normal ?_
        | refine J_exit ?_
        | refine seqQ_exit ?_
        | refine blockQ_hit ?_
        | refine blockQ_miss rfl ?_
        | refine J_skip ?_
        | refine J_ret ?_
        | refine seqQ_ret ?_
        | refine blockQ_ret ?_
        | refine loopQ_exit ?_
        | refine loopQ_ret ?_
        | refine J_label ?_
      refine J_region ?_
      refine L_q (Q_move rfl) rfl rfl rfl ?_
      refine L_q (Q_geq rfl rfl) rfl rfl rfl ?_
      refine JL_nil ?_
      repeat first
        | refine J_seq ?_
        | refine seqQ_normal ?_
        | refine J_condT rfl ?_
        | refine J_condF rfl ?_
        | refine J_block ?_
        | refine blockQ_normal ?_
        | refine J_exit ?_
        | refine seqQ_exit ?_
        | refine blockQ_hit ?_
        | refine blockQ_miss rfl ?_
        | refine J_skip ?_
        | refine J_ret ?_
        | refine seqQ_ret ?_
        | refine blockQ_ret ?_
        | refine loopQ_exit ?_
        | refine loopQ_ret ?_
        | refine J_label ?_
      obtain ⟨g, hg0⟩ : ∃ g : Nat, g = 0 := ⟨0, rfl⟩
      have hgg : (if told a b = 1 then nw b 1 else if told a b = 0 then nw a 1 else 0) = g := by rw [if_neg (by omega), if_neg (by omega), hg0]
      repeat first
        | refine J_seq ?_
        | refine seqQ_normal ?_
        | refine J_condT rfl ?_
        | refine J_condF rfl ?_
        | refine J_block ?_
        | refine blockQ_normal ?_
        | refine J_exit ?_
        | refine seqQ_exit ?_
        | refine blockQ_hit ?_
        | refine blockQ_miss rfl ?_
        | refine J_skip ?_
        | refine J_ret ?_
        | refine seqQ_ret ?_
        | refine blockQ_ret ?_
        | refine loopQ_exit ?_
        | refine loopQ_ret ?_
        | refine J_label ?_
      refine J_region ?_
      refine L_q (Q_move rfl) rfl rfl rfl ?_
      refine L_q (Q_addN g 1 rfl rfl (by rw [hg0]; rfl) rfl) rfl rfl rfl ?_
      refine L_o rfl rfl rfl (O_call [] [0,1,2,3] (four_ok E ((g + 1) % 2 ^ 32)) rfl rfl ?_)
      rintro _ _ ⟨S1, rfl, rfl⟩
      refine JL.norm ?_
      refine L_q (Q_move rfl) rfl rfl rfl ?_
      refine L_q (Q_slen rfl) rfl rfl rfl ?_
      refine L_q (Q_cvtN body.length rfl rfl) rfl rfl rfl ?_
      refine L_o rfl rfl rfl (O_call [] [0,1,2,3,4] (four_ok E (body.length % 2 ^ 32)) rfl rfl ?_)
      rintro _ _ ⟨S2, rfl, rfl⟩
      refine JL.norm ?_
      refine L_o rfl rfl rfl (O_app (τ := tB) 1 rfl (fun w h => h.rd 0 rfl) rfl rfl rfl rfl (by simp [four]) (by decide) (fun S3 => ?_))
      refine JL.norm ?_
      refine L_q (Q_assign rfl) rfl rfl rfl ?_
      refine JL_nil ?_
      repeat first
        | refine J_seq ?_
        | refine seqQ_normal ?_
        | refine J_condT rfl ?_
        | refine J_condF rfl ?_
        | refine J_block ?_
        | refine blockQ_normal ?_
        | refine J_exit ?_
        | refine seqQ_exit ?_
        | refine blockQ_hit ?_
        | refine blockQ_miss rfl ?_
        | refine J_skip ?_
        | refine J_ret ?_
        | refine seqQ_ret ?_
        | refine blockQ_ret ?_
        | refine loopQ_exit ?_
        | refine loopQ_ret ?_
        | refine J_label ?_
      repeat first
        | refine J_seq ?_
        | refine seqQ_normal ?_
        | refine J_condT rfl ?_
        | refine J_condF rfl ?_
        | refine J_block ?_
        | refine blockQ_normal ?_
        | refine J_exit ?_
        | refine seqQ_exit ?_
        | refine blockQ_hit ?_
        | refine blockQ_miss rfl ?_
        | refine J_skip ?_
        | refine J_ret ?_
        | refine seqQ_ret ?_
        | refine blockQ_ret ?_
        | refine loopQ_exit ?_
        | refine loopQ_ret ?_
        | refine J_label ?_
      refine J_region ?_
      refine L_q (Q_move rfl) rfl rfl rfl ?_
      refine L_q (Q_move rfl) rfl rfl rfl ?_
      refine L_o rfl rfl rfl (O_appS tB_enc 1 rfl rfl rfl rfl rfl (by simp [four]; omega) (by decide) (fun S4 => ?_))
      refine JL.norm ?_
      refine L_q (Q_assign rfl) rfl rfl rfl ?_
      refine JL_nil ?_
      repeat first
        | refine J_seq ?_
        | refine seqQ_normal ?_
        | refine J_condT rfl ?_
        | refine J_condF rfl ?_
        | refine J_block ?_
        | refine blockQ_normal ?_
        | refine J_exit ?_
        | refine seqQ_exit ?_
        | refine blockQ_hit ?_
        | refine blockQ_miss rfl ?_
        | refine J_skip ?_
        | refine J_ret ?_
        | refine seqQ_ret ?_
        | refine blockQ_ret ?_
        | refine loopQ_exit ?_
        | refine loopQ_ret ?_
        | refine J_label ?_
      repeat first
        | refine J_seq ?_
        | refine seqQ_normal ?_
        | refine J_condT rfl ?_
        | refine J_condF rfl ?_
        | refine J_block ?_
        | refine blockQ_normal ?_
        | refine J_exit ?_
        | refine seqQ_exit ?_
        | refine blockQ_hit ?_
        | refine blockQ_miss rfl ?_
        | refine J_skip ?_
        | refine J_ret ?_
        | refine seqQ_ret ?_
        | refine blockQ_ret ?_
        | refine loopQ_exit ?_
        | refine loopQ_ret ?_
        | refine J_label ?_
      refine J_region ?_
      refine L_q (Q_move rfl) rfl rfl rfl ?_
      refine L_q (Q_b2s tB_enc (fun w h => h.rd 1 rfl) rfl) rfl rfl rfl ?_
      refine L_o rfl rfl rfl (O_call [] [0,1,2,3,4,5] (sum_ok E _ (by simp [four]; omega)) rfl rfl ?_)
      rintro _ _ ⟨rfl, rfl⟩
      refine JL.norm ?_
      refine L_o rfl rfl rfl (O_call [] [0,1,2,3,4,5] (four_ok E _) rfl rfl ?_)
      rintro _ _ ⟨S5, rfl, rfl⟩
      refine JL.norm ?_
      refine L_q (Q_move rfl) rfl rfl rfl ?_
      refine L_o rfl rfl rfl (O_app (τ := tB) 0 rfl (fun w h => h.rd 2 rfl) rfl rfl rfl rfl (by simp [four]; omega) (by decide) (fun S6 => ?_))
      refine JL.norm ?_
      refine L_q (Q_assign rfl) rfl rfl rfl ?_
      refine JL_nil ?_
      repeat first
        | refine J_seq ?_
        | refine seqQ_normal ?_
        | refine J_condT rfl ?_
        | refine J_condF rfl ?_
        | refine J_block ?_
        | refine blockQ_normal ?_
        | refine J_exit ?_
        | refine seqQ_exit ?_
        | refine blockQ_hit ?_
        | refine blockQ_miss rfl ?_
        | refine J_skip ?_
        | refine J_ret ?_
        | refine seqQ_ret ?_
        | refine blockQ_ret ?_
        | refine loopQ_exit ?_
        | refine loopQ_ret ?_
        | refine J_label ?_
      have hwr : wrote a b body upto = if 0 ≤ upto ∧ upto < ((four (crc (four ((g + 1) % 2 ^ 32) ++ four (body.length % 2 ^ 32) ++ body)) ++ (four ((g + 1) % 2 ^ 32) ++ four (body.length % 2 ^ 32) ++ body)).length : Int) then (four (crc (four ((g + 1) % 2 ^ 32) ++ four (body.length % 2 ^ 32) ++ body)) ++ (four ((g + 1) % 2 ^ 32) ++ four (body.length % 2 ^ 32) ++ body)).take upto.toNat else four (crc (four ((g + 1) % 2 ^ 32) ++ four (body.length % 2 ^ 32) ++ body)) ++ (four ((g + 1) % 2 ^ 32) ++ four (body.length % 2 ^ 32) ++ body) := by simp only [wrote, hgg]
      generalize four (crc (four ((g + 1) % 2 ^ 32) ++ four (body.length % 2 ^ 32) ++ body)) ++ (four ((g + 1) % 2 ^ 32) ++ four (body.length % 2 ^ 32) ++ body) = u at hwr ⊢
      by_cases hu0 : 0 ≤ upto
      · by_cases hu1 : upto < (u.length : Int)
        · obtain ⟨m, rfl⟩ : ∃ m : Nat, upto = (m : Int) := ⟨upto.toNat, by omega⟩
          have hm : m ≤ u.length := by omega
          rw [if_pos ⟨hu0, hu1⟩, Int.toNat_natCast] at hwr
          repeat first
            | refine J_seq ?_
            | refine seqQ_normal ?_
            | refine J_condT rfl ?_
            | refine J_condF rfl ?_
            | refine J_block ?_
            | refine blockQ_normal ?_
            | refine J_exit ?_
            | refine seqQ_exit ?_
            | refine blockQ_hit ?_
            | refine blockQ_miss rfl ?_
            | refine J_skip ?_
            | refine J_ret ?_
            | refine seqQ_ret ?_
            | refine blockQ_ret ?_
            | refine loopQ_exit ?_
            | refine loopQ_ret ?_
            | refine J_label ?_
          refine J_region ?_
          refine L_q (Q_move rfl) rfl rfl rfl ?_
          refine L_q ((Q_geq rfl rfl).as (v' := .bool true) (congrArg Value.bool (decide_eq_true hu0))) rfl rfl rfl ?_
          refine L_q (Q_move rfl) rfl rfl rfl ?_
          refine L_q (Q_move rfl) rfl rfl rfl ?_
          refine L_q (Q_move rfl) rfl rfl rfl ?_
          first
            | refine L_q (Q_lenAt 0 rfl rfl) rfl rfl rfl ?_
            | refine L_q (Q_lenAt 1 rfl rfl) rfl rfl rfl ?_
            | refine L_q (Q_lenAt 2 rfl rfl) rfl rfl rfl ?_
            | refine L_q (Q_lenAt 3 rfl rfl) rfl rfl rfl ?_
            | refine L_q (Q_lenAt 4 rfl rfl) rfl rfl rfl ?_
          refine L_q ((Q_lss rfl rfl).as (v' := .bool true) (congrArg Value.bool (decide_eq_true hu1))) rfl rfl rfl ?_
          first
            | refine L_q (Q_pickT rfl rfl) rfl rfl rfl ?_
            | refine L_q (Q_pickF rfl rfl) rfl rfl rfl ?_
            | refine L_q (Q_pickB rfl rfl rfl) rfl rfl rfl ?_
          refine JL_nil ?_
          repeat first
            | refine J_seq ?_
            | refine seqQ_normal ?_
            | refine J_condT rfl ?_
            | refine J_condF rfl ?_
            | refine J_block ?_
            | refine blockQ_normal ?_
            | refine J_exit ?_
            | refine seqQ_exit ?_
            | refine blockQ_hit ?_
            | refine blockQ_miss rfl ?_
            | refine J_skip ?_
            | refine J_ret ?_
            | refine seqQ_ret ?_
            | refine blockQ_ret ?_
            | refine loopQ_exit ?_
            | refine loopQ_ret ?_
            | refine J_label ?_
          repeat first
            | refine J_seq ?_
            | refine seqQ_normal ?_
            | refine J_condT rfl ?_
            | refine J_condF rfl ?_
            | refine J_block ?_
            | refine blockQ_normal ?_
            | refine J_exit ?_
            | refine seqQ_exit ?_
            | refine blockQ_hit ?_
            | refine blockQ_miss rfl ?_
            | refine J_skip ?_
            | refine J_ret ?_
            | refine seqQ_ret ?_
            | refine blockQ_ret ?_
            | refine loopQ_exit ?_
            | refine loopQ_ret ?_
            | refine J_label ?_
          refine J_region ?_
          refine L_q (Q_move rfl) rfl rfl rfl ?_
          refine L_q (Q_move rfl) rfl rfl rfl ?_
          refine L_q (Q_slH m (fun w h => h.rd 0 rfl) rfl rfl rfl hm rfl) rfl rfl rfl ?_
          refine L_q (Q_assign rfl) rfl rfl rfl ?_
          refine JL_nil ?_
          repeat first
            | refine J_seq ?_
            | refine seqQ_normal ?_
            | refine J_condT rfl ?_
            | refine J_condF rfl ?_
            | refine J_block ?_
            | refine blockQ_normal ?_
            | refine J_exit ?_
            | refine seqQ_exit ?_
            | refine blockQ_hit ?_
            | refine blockQ_miss rfl ?_
            | refine J_skip ?_
            | refine J_ret ?_
            | refine seqQ_ret ?_
            | refine blockQ_ret ?_
            | refine loopQ_exit ?_
            | refine loopQ_ret ?_
            | refine J_label ?_
          repeat first
            | refine J_seq ?_
            | refine seqQ_normal ?_
            | refine J_condT rfl ?_
            | refine J_condF rfl ?_
            | refine J_block ?_
            | refine blockQ_normal ?_
            | refine J_exit ?_
            | refine seqQ_exit ?_
            | refine blockQ_hit ?_
            | refine blockQ_miss rfl ?_
            | refine J_skip ?_
            | refine J_ret ?_
            | refine seqQ_ret ?_
            | refine blockQ_ret ?_
            | refine loopQ_exit ?_
            | refine loopQ_ret ?_
            | refine J_label ?_
          refine J_region ?_
          refine L_q (Q_move rfl) rfl rfl rfl ?_
          refine L_q (Q_eql rfl rfl) rfl rfl rfl ?_
          refine JL_nil ?_
          repeat first
            | refine J_seq ?_
            | refine seqQ_normal ?_
            | refine J_condT rfl ?_
            | refine J_condF rfl ?_
            | refine J_block ?_
            | refine blockQ_normal ?_
            | refine J_exit ?_
            | refine seqQ_exit ?_
            | refine blockQ_hit ?_
            | refine blockQ_miss rfl ?_
            | refine J_skip ?_
            | refine J_ret ?_
            | refine seqQ_ret ?_
            | refine blockQ_ret ?_
            | refine loopQ_exit ?_
            | refine loopQ_ret ?_
            | refine J_label ?_
          repeat first
            | refine J_seq ?_
            | refine seqQ_normal ?_
            | refine J_condT rfl ?_
            | refine J_condF rfl ?_
            | refine J_block ?_
            | refine blockQ_normal ?_
            | refine J_exit ?_
            | refine seqQ_exit ?_
            | refine blockQ_hit ?_
            | refine blockQ_miss rfl ?_
            | refine J_skip ?_
            | refine J_ret ?_
            | refine seqQ_ret ?_
            | refine blockQ_ret ?_
            | refine loopQ_exit ?_
            | refine loopQ_ret ?_
            | refine J_label ?_
          refine J_region ?_
          refine L_q (Q_move rfl) rfl rfl rfl ?_
          refine L_q (Q_move rfl) rfl rfl rfl ?_
          refine L_q (Q_build rfl) rfl rfl rfl ?_
          first
            | refine L_q (Q_pnil rfl) rfl rfl rfl ?_
            | refine L_q (Q_nilCheck rfl) rfl rfl rfl ?_
          first
            | refine L_q (Q_fa0 rfl) rfl rfl rfl ?_
            | refine L_q (Q_fa rfl rfl) rfl rfl rfl ?_
            | refine L_q (Q_pfa rfl) rfl rfl rfl ?_
          refine L_q (Q_ia (o' := 0) 0 rfl rfl rfl (by decide) (by decide)) rfl rfl rfl ?_
          refine L_s rfl rfl (O_st (sz := 1) (cs' := [(SV.sub S6 tB.sz 0 m).v, T.v]) 3 rfl rfl rfl rfl rfl (by simp [Value.oneCell', Value.cells]) (by simp) rfl ?_)
          refine JL.norm ?_
          refine JL_nil ?_
          repeat first
            | refine J_seq ?_
            | refine seqQ_normal ?_
            | refine J_condT rfl ?_
            | refine J_condF rfl ?_
            | refine J_block ?_
            | refine blockQ_normal ?_
            | refine J_exit ?_
            | refine seqQ_exit ?_
            | refine blockQ_hit ?_
            | refine blockQ_miss rfl ?_
            | refine J_skip ?_
            | refine J_ret ?_
            | refine seqQ_ret ?_
            | refine blockQ_ret ?_
            | refine loopQ_exit ?_
            | refine loopQ_ret ?_
            | refine J_label ?_
          repeat first
            | refine J_seq ?_
            | refine seqQ_normal ?_
            | refine J_condT rfl ?_
            | refine J_condF rfl ?_
            | refine J_block ?_
            | refine blockQ_normal ?_
            | refine J_exit ?_
            | refine seqQ_exit ?_
            | refine blockQ_hit ?_
            | refine blockQ_miss rfl ?_
            | refine J_skip ?_
            | refine J_ret ?_
            | refine seqQ_ret ?_
            | refine blockQ_ret ?_
            | refine loopQ_exit ?_
            | refine loopQ_ret ?_
            | refine J_label ?_
          refine J_region ?_
          refine L_q (Q_assign rfl) rfl rfl rfl ?_
          refine JL_nil ?_
          repeat first
            | refine J_seq ?_
            | refine seqQ_normal ?_
            | refine J_condT rfl ?_
            | refine J_condF rfl ?_
            | refine J_block ?_
            | refine blockQ_normal ?_
            | refine J_exit ?_
            | refine seqQ_exit ?_
            | refine blockQ_hit ?_
            | refine blockQ_miss rfl ?_
            | refine J_skip ?_
            | refine J_ret ?_
            | refine seqQ_ret ?_
            | refine blockQ_ret ?_
            | refine loopQ_exit ?_
            | refine loopQ_ret ?_
            | refine J_label ?_
          refine retQ_ret _ [cel p [(SV.sub S6 tB.sz 0 m).v, T.v] 59, slc tB true (SV.sub S6 tB.sz 0 m) ((u.take m).drop 0), slc tB true T b] (.cons (RV_tmp rfl) .nil) ⟨(SV.sub S6 tB.sz 0 m), T, by simp only [hdo]; first | done | rfl, by simp only [hdo, hwr]; first | done | rfl⟩ ?_
          exact (Ent.sub 0 0 m rfl (Nat.zero_le _) hm).trans (Ent.re [3,0,5,6] rfl)
        · rw [if_neg (fun h => hu1 h.2)] at hwr
          repeat first
            | refine J_seq ?_
            | refine seqQ_normal ?_
            | refine J_condT rfl ?_
            | refine J_condF rfl ?_
            | refine J_block ?_
            | refine blockQ_normal ?_
            | refine J_exit ?_
            | refine seqQ_exit ?_
            | refine blockQ_hit ?_
            | refine blockQ_miss rfl ?_
            | refine J_skip ?_
            | refine J_ret ?_
            | refine seqQ_ret ?_
            | refine blockQ_ret ?_
            | refine loopQ_exit ?_
            | refine loopQ_ret ?_
            | refine J_label ?_
          refine J_region ?_
          refine L_q (Q_move rfl) rfl rfl rfl ?_
          refine L_q ((Q_geq rfl rfl).as (v' := .bool true) (congrArg Value.bool (decide_eq_true hu0))) rfl rfl rfl ?_
          refine L_q (Q_move rfl) rfl rfl rfl ?_
          refine L_q (Q_move rfl) rfl rfl rfl ?_
          refine L_q (Q_move rfl) rfl rfl rfl ?_
          first
            | refine L_q (Q_lenAt 0 rfl rfl) rfl rfl rfl ?_
            | refine L_q (Q_lenAt 1 rfl rfl) rfl rfl rfl ?_
            | refine L_q (Q_lenAt 2 rfl rfl) rfl rfl rfl ?_
            | refine L_q (Q_lenAt 3 rfl rfl) rfl rfl rfl ?_
            | refine L_q (Q_lenAt 4 rfl rfl) rfl rfl rfl ?_
          refine L_q ((Q_lss rfl rfl).as (v' := .bool false) (congrArg Value.bool (decide_eq_false hu1))) rfl rfl rfl ?_
          first
            | refine L_q (Q_pickT rfl rfl) rfl rfl rfl ?_
            | refine L_q (Q_pickF rfl rfl) rfl rfl rfl ?_
            | refine L_q (Q_pickB rfl rfl rfl) rfl rfl rfl ?_
          refine JL_nil ?_
          repeat first
            | refine J_seq ?_
            | refine seqQ_normal ?_
            | refine J_condT rfl ?_
            | refine J_condF rfl ?_
            | refine J_block ?_
            | refine blockQ_normal ?_
            | refine J_exit ?_
            | refine seqQ_exit ?_
            | refine blockQ_hit ?_
            | refine blockQ_miss rfl ?_
            | refine J_skip ?_
            | refine J_ret ?_
            | refine seqQ_ret ?_
            | refine blockQ_ret ?_
            | refine loopQ_exit ?_
            | refine loopQ_ret ?_
            | refine J_label ?_
          repeat first
            | refine J_seq ?_
            | refine seqQ_normal ?_
            | refine J_condT rfl ?_
            | refine J_condF rfl ?_
            | refine J_block ?_
            | refine blockQ_normal ?_
            | refine J_exit ?_
            | refine seqQ_exit ?_
            | refine blockQ_hit ?_
            | refine blockQ_miss rfl ?_
            | refine J_skip ?_
            | refine J_ret ?_
            | refine seqQ_ret ?_
            | refine blockQ_ret ?_
            | refine loopQ_exit ?_
            | refine loopQ_ret ?_
            | refine J_label ?_
          refine J_region ?_
          refine L_q (Q_move rfl) rfl rfl rfl ?_
          refine L_q (Q_eql rfl rfl) rfl rfl rfl ?_
          refine JL_nil ?_
          repeat first
            | refine J_seq ?_
            | refine seqQ_normal ?_
            | refine J_condT rfl ?_
            | refine J_condF rfl ?_
            | refine J_block ?_
            | refine blockQ_normal ?_
            | refine J_exit ?_
            | refine seqQ_exit ?_
            | refine blockQ_hit ?_
            | refine blockQ_miss rfl ?_
            | refine J_skip ?_
            | refine J_ret ?_
            | refine seqQ_ret ?_
            | refine blockQ_ret ?_
            | refine loopQ_exit ?_
            | refine loopQ_ret ?_
            | refine J_label ?_
          repeat first
            | refine J_seq ?_
            | refine seqQ_normal ?_
            | refine J_condT rfl ?_
            | refine J_condF rfl ?_
            | refine J_block ?_
            | refine blockQ_normal ?_
            | refine J_exit ?_
            | refine seqQ_exit ?_
            | refine blockQ_hit ?_
            | refine blockQ_miss rfl ?_
            | refine J_skip ?_
            | refine J_ret ?_
            | refine seqQ_ret ?_
            | refine blockQ_ret ?_
            | refine loopQ_exit ?_
            | refine loopQ_ret ?_
            | refine J_label ?_
          refine J_region ?_
          refine L_q (Q_move rfl) rfl rfl rfl ?_
          refine L_q (Q_move rfl) rfl rfl rfl ?_
          refine L_q (Q_build rfl) rfl rfl rfl ?_
          first
            | refine L_q (Q_pnil rfl) rfl rfl rfl ?_
            | refine L_q (Q_nilCheck rfl) rfl rfl rfl ?_
          first
            | refine L_q (Q_fa0 rfl) rfl rfl rfl ?_
            | refine L_q (Q_fa rfl rfl) rfl rfl rfl ?_
            | refine L_q (Q_pfa rfl) rfl rfl rfl ?_
          refine L_q (Q_ia (o' := 0) 0 rfl rfl rfl (by decide) (by decide)) rfl rfl rfl ?_
          refine L_s rfl rfl (O_st (sz := 1) (cs' := [S6.v, T.v]) 3 rfl rfl rfl rfl rfl (by simp [Value.oneCell', Value.cells]) (by simp) rfl ?_)
          refine JL.norm ?_
          refine JL_nil ?_
          repeat first
            | refine J_seq ?_
            | refine seqQ_normal ?_
            | refine J_condT rfl ?_
            | refine J_condF rfl ?_
            | refine J_block ?_
            | refine blockQ_normal ?_
            | refine J_exit ?_
            | refine seqQ_exit ?_
            | refine blockQ_hit ?_
            | refine blockQ_miss rfl ?_
            | refine J_skip ?_
            | refine J_ret ?_
            | refine seqQ_ret ?_
            | refine blockQ_ret ?_
            | refine loopQ_exit ?_
            | refine loopQ_ret ?_
            | refine J_label ?_
          repeat first
            | refine J_seq ?_
            | refine seqQ_normal ?_
            | refine J_condT rfl ?_
            | refine J_condF rfl ?_
            | refine J_block ?_
            | refine blockQ_normal ?_
            | refine J_exit ?_
            | refine seqQ_exit ?_
            | refine blockQ_hit ?_
            | refine blockQ_miss rfl ?_
            | refine J_skip ?_
            | refine J_ret ?_
            | refine seqQ_ret ?_
            | refine blockQ_ret ?_
            | refine loopQ_exit ?_
            | refine loopQ_ret ?_
            | refine J_label ?_
          refine J_region ?_
          refine L_q (Q_assign rfl) rfl rfl rfl ?_
          refine JL_nil ?_
          repeat first
            | refine J_seq ?_
            | refine seqQ_normal ?_
            | refine J_condT rfl ?_
            | refine J_condF rfl ?_
            | refine J_block ?_
            | refine blockQ_normal ?_
            | refine J_exit ?_
            | refine seqQ_exit ?_
            | refine blockQ_hit ?_
            | refine blockQ_miss rfl ?_
            | refine J_skip ?_
            | refine J_ret ?_
            | refine seqQ_ret ?_
            | refine blockQ_ret ?_
            | refine loopQ_exit ?_
            | refine loopQ_ret ?_
            | refine J_label ?_
          exact retQ_ret _ [cel p [S6.v, T.v] 59, slc tB true S6 u, slc tB true T b] (.cons (RV_tmp rfl) .nil) ⟨S6, T, by simp only [hdo]; first | done | rfl, by simp only [hdo, hwr]; first | done | rfl⟩ (Ent.re [3,0,5,6] rfl)
      · rw [if_neg (fun h => hu0 h.1)] at hwr
        repeat first
          | refine J_seq ?_
          | refine seqQ_normal ?_
          | refine J_condT rfl ?_
          | refine J_condF rfl ?_
          | refine J_block ?_
          | refine blockQ_normal ?_
          | refine J_exit ?_
          | refine seqQ_exit ?_
          | refine blockQ_hit ?_
          | refine blockQ_miss rfl ?_
          | refine J_skip ?_
          | refine J_ret ?_
          | refine seqQ_ret ?_
          | refine blockQ_ret ?_
          | refine loopQ_exit ?_
          | refine loopQ_ret ?_
          | refine J_label ?_
        refine J_region ?_
        refine L_q (Q_move rfl) rfl rfl rfl ?_
        refine L_q ((Q_geq rfl rfl).as (v' := .bool false) (congrArg Value.bool (decide_eq_false hu0))) rfl rfl rfl ?_
        refine L_q (Q_move rfl) rfl rfl rfl ?_
        refine L_n rfl rfl rfl ?_
        refine L_n rfl rfl rfl ?_
        refine L_n rfl rfl rfl ?_
        refine L_n rfl rfl rfl ?_
        first
          | refine L_q (Q_pickT rfl rfl) rfl rfl rfl ?_
          | refine L_q (Q_pickF rfl rfl) rfl rfl rfl ?_
          | refine L_q (Q_pickB rfl rfl rfl) rfl rfl rfl ?_
        refine JL_nil ?_
        repeat first
          | refine J_seq ?_
          | refine seqQ_normal ?_
          | refine J_condT rfl ?_
          | refine J_condF rfl ?_
          | refine J_block ?_
          | refine blockQ_normal ?_
          | refine J_exit ?_
          | refine seqQ_exit ?_
          | refine blockQ_hit ?_
          | refine blockQ_miss rfl ?_
          | refine J_skip ?_
          | refine J_ret ?_
          | refine seqQ_ret ?_
          | refine blockQ_ret ?_
          | refine loopQ_exit ?_
          | refine loopQ_ret ?_
          | refine J_label ?_
        repeat first
          | refine J_seq ?_
          | refine seqQ_normal ?_
          | refine J_condT rfl ?_
          | refine J_condF rfl ?_
          | refine J_block ?_
          | refine blockQ_normal ?_
          | refine J_exit ?_
          | refine seqQ_exit ?_
          | refine blockQ_hit ?_
          | refine blockQ_miss rfl ?_
          | refine J_skip ?_
          | refine J_ret ?_
          | refine seqQ_ret ?_
          | refine blockQ_ret ?_
          | refine loopQ_exit ?_
          | refine loopQ_ret ?_
          | refine J_label ?_
        refine J_region ?_
        refine L_q (Q_move rfl) rfl rfl rfl ?_
        refine L_q (Q_eql rfl rfl) rfl rfl rfl ?_
        refine JL_nil ?_
        repeat first
          | refine J_seq ?_
          | refine seqQ_normal ?_
          | refine J_condT rfl ?_
          | refine J_condF rfl ?_
          | refine J_block ?_
          | refine blockQ_normal ?_
          | refine J_exit ?_
          | refine seqQ_exit ?_
          | refine blockQ_hit ?_
          | refine blockQ_miss rfl ?_
          | refine J_skip ?_
          | refine J_ret ?_
          | refine seqQ_ret ?_
          | refine blockQ_ret ?_
          | refine loopQ_exit ?_
          | refine loopQ_ret ?_
          | refine J_label ?_
        repeat first
          | refine J_seq ?_
          | refine seqQ_normal ?_
          | refine J_condT rfl ?_
          | refine J_condF rfl ?_
          | refine J_block ?_
          | refine blockQ_normal ?_
          | refine J_exit ?_
          | refine seqQ_exit ?_
          | refine blockQ_hit ?_
          | refine blockQ_miss rfl ?_
          | refine J_skip ?_
          | refine J_ret ?_
          | refine seqQ_ret ?_
          | refine blockQ_ret ?_
          | refine loopQ_exit ?_
          | refine loopQ_ret ?_
          | refine J_label ?_
        refine J_region ?_
        refine L_q (Q_move rfl) rfl rfl rfl ?_
        refine L_q (Q_move rfl) rfl rfl rfl ?_
        refine L_q (Q_build rfl) rfl rfl rfl ?_
        first
          | refine L_q (Q_pnil rfl) rfl rfl rfl ?_
          | refine L_q (Q_nilCheck rfl) rfl rfl rfl ?_
        first
          | refine L_q (Q_fa0 rfl) rfl rfl rfl ?_
          | refine L_q (Q_fa rfl rfl) rfl rfl rfl ?_
          | refine L_q (Q_pfa rfl) rfl rfl rfl ?_
        refine L_q (Q_ia (o' := 0) 0 rfl rfl rfl (by decide) (by decide)) rfl rfl rfl ?_
        refine L_s rfl rfl (O_st (sz := 1) (cs' := [S6.v, T.v]) 3 rfl rfl rfl rfl rfl (by simp [Value.oneCell', Value.cells]) (by simp) rfl ?_)
        refine JL.norm ?_
        refine JL_nil ?_
        repeat first
          | refine J_seq ?_
          | refine seqQ_normal ?_
          | refine J_condT rfl ?_
          | refine J_condF rfl ?_
          | refine J_block ?_
          | refine blockQ_normal ?_
          | refine J_exit ?_
          | refine seqQ_exit ?_
          | refine blockQ_hit ?_
          | refine blockQ_miss rfl ?_
          | refine J_skip ?_
          | refine J_ret ?_
          | refine seqQ_ret ?_
          | refine blockQ_ret ?_
          | refine loopQ_exit ?_
          | refine loopQ_ret ?_
          | refine J_label ?_
        repeat first
          | refine J_seq ?_
          | refine seqQ_normal ?_
          | refine J_condT rfl ?_
          | refine J_condF rfl ?_
          | refine J_block ?_
          | refine blockQ_normal ?_
          | refine J_exit ?_
          | refine seqQ_exit ?_
          | refine blockQ_hit ?_
          | refine blockQ_miss rfl ?_
          | refine J_skip ?_
          | refine J_ret ?_
          | refine seqQ_ret ?_
          | refine blockQ_ret ?_
          | refine loopQ_exit ?_
          | refine loopQ_ret ?_
          | refine J_label ?_
        refine J_region ?_
        refine L_q (Q_assign rfl) rfl rfl rfl ?_
        refine JL_nil ?_
        repeat first
          | refine J_seq ?_
          | refine seqQ_normal ?_
          | refine J_condT rfl ?_
          | refine J_condF rfl ?_
          | refine J_block ?_
          | refine blockQ_normal ?_
          | refine J_exit ?_
          | refine seqQ_exit ?_
          | refine blockQ_hit ?_
          | refine blockQ_miss rfl ?_
          | refine J_skip ?_
          | refine J_ret ?_
          | refine seqQ_ret ?_
          | refine blockQ_ret ?_
          | refine loopQ_exit ?_
          | refine loopQ_ret ?_
          | refine J_label ?_
        exact retQ_ret _ [cel p [S6.v, T.v] 59, slc tB true S6 u, slc tB true T b] (.cons (RV_tmp rfl) .nil) ⟨S6, T, by simp only [hdo]; first | done | rfl, by simp only [hdo, hwr]; first | done | rfl⟩ (Ent.re [3,0,5,6] rfl)
end Go.Proofs
