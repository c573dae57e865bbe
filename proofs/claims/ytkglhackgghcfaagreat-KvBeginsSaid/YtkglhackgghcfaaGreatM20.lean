/- Part 20 of the texts below the row: Snap4, Snap5, Kv3, Kv4, Kv5, Ref37a, Ref37h, Pack, Kv6, Packr, UnpP. -/
import Derived.Test.YtkglhackgghcfaaGreatM19
/- A write into the slots. -/
set_option autoImplicit false
namespace Go.Proofs
open Go.SL
attribute [local irreducible] J JL QOp JOp seqQ blockQ loopQ retQ slc cel hex star pur stars Does RV Ent pAt
theorem write_ok (E : World) (p : Nat) (S T : SV) (a b body : List UInt8) (upto : Int) (ha : a.length ≤ 100000) (hb : b.length ≤ 100000) :
    Does Tryz.prog E 29 [.pointer (some ⟨p, 0, none⟩), str body, .int .i64 upto] [cel p [S.v, T.v] 92, slc tB true S a, slc tB true T b] fun v L => ∃ S' T' : SV, v = .int .i64 (doW a b body upto).2.2 ∧ L = [cel p [S'.v, T'.v] 92, slc tB true S' (doW a b body upto).1, slc tB true T' (doW a b body upto).2.1] := by
  have ht := told_ok E p S T a b ha hb
  have htc := told_cases a b
  refine Does.of Tryz.func29 rfl Tryz.ntmps29 rfl rfl fun F => ?_
  refine J.norm ?_
  refine J_seq ?_
  refine J_region ?_
  refine L_q (Q_assign rfl) rfl rfl rfl ?_
  refine JL_nil ?_
  refine seqQ_normal ?_
  refine J_seq ?_
  refine J_seq ?_
  refine J_region ?_
  refine L_q (Q_move rfl) rfl rfl rfl ?_
  refine L_q (Q_peql rfl rfl) rfl rfl rfl ?_
  refine JL_nil ?_
  refine seqQ_normal ?_
  refine J_condF rfl ?_
  refine J_skip ?_
  refine seqQ_normal ?_
  refine J_seq ?_
  refine J_seq ?_
  refine J_region ?_
  refine L_q (Q_move rfl) rfl rfl rfl ?_
  refine L_q (Q_slen rfl) rfl rfl rfl ?_
  refine L_q (Q_gtr rfl rfl) rfl rfl rfl ?_
  refine JL_nil ?_
  refine seqQ_normal ?_
  refine J_condD rfl (fun h0 => ?_) (fun h0 => ?_)
  · have hdo : doW a b body upto = (a, b, 2) := by unfold doW; rw [if_pos (by omega)]
    refine J_seq ?_
    refine J_region ?_
    refine L_q (Q_assign rfl) rfl rfl rfl ?_
    refine JL_nil ?_
    refine seqQ_normal ?_
    refine J_ret ?_
    refine seqQ_ret ?_
    exact retQ_ret _ [cel p [S.v, T.v] 92, slc tB true S a, slc tB true T b] (.cons (RV_tmp rfl) .nil) ⟨S, T, by simp only [hdo]; first | done | rfl, by simp only [hdo]⟩ (Ent.refl _)
  · have hd0 : doW a b body upto = if told a b = 0 then (a, wrote a b body upto, 0) else (wrote a b body upto, b, 0) := by unfold doW; rw [if_neg (by omega)]
    rcases htc with ⟨e, hr⟩ | ⟨e, hr⟩ | e
    · rw [e] at ht
      have hl := right_long hr
      have hdo : doW a b body upto = (wrote a b body upto, b, 0) := by rw [hd0, if_neg (by omega)]
      refine J_skip ?_
      refine seqQ_normal ?_
      refine J_seq ?_
      refine J_region ?_
      refine L_q (Q_move rfl) rfl rfl rfl ?_
      refine L_o rfl rfl rfl (O_call [0,1,2] [3] ht rfl rfl ?_)
      rintro _ _ ⟨rfl, rfl⟩
      refine JL.norm ?_
      refine L_q (Q_assign rfl) rfl rfl rfl ?_
      refine L_q (Q_assign rfl) rfl rfl rfl ?_
      refine JL_nil ?_
      refine seqQ_normal ?_
      refine J_seq ?_
      refine J_seq ?_
      refine J_region ?_
      refine L_q (Q_move rfl) rfl rfl rfl ?_
      refine L_q (Q_geq rfl rfl) rfl rfl rfl ?_
      refine JL_nil ?_
      refine seqQ_normal ?_
      refine J_condT rfl ?_
      refine J_region ?_
      refine L_q (Q_move rfl) rfl rfl rfl ?_
      refine L_q (Q_move rfl) rfl rfl rfl ?_
      refine L_q (Q_nilCheck rfl) rfl rfl rfl ?_
      refine L_q (Q_fa0 rfl) rfl rfl rfl ?_
      refine L_q (Q_ia (o' := 1) 1 rfl rfl rfl (by decide) (by decide)) rfl rfl rfl ?_
      refine L_q (Q_ldA 0 rfl rfl rfl) rfl rfl rfl ?_
      refine L_o rfl rfl rfl (O_call [2] [0,1,3] (words_ok E T b hl) rfl rfl ?_)
      rintro _ _ ⟨rfl, rfl⟩
      refine JL.norm ?_
      refine L_q (Q_aiS (v' := .int .u32 (nw b 1 : Int)) 1 rfl rfl rfl (by decide) rfl rfl) rfl rfl rfl ?_
      refine L_q (Q_assign rfl) rfl rfl rfl ?_
      refine JL_nil ?_
      refine seqQ_normal ?_
      refine J_seq ?_
      obtain ⟨g, hgv⟩ : ∃ g : Nat, g = nw b 1 := ⟨_, rfl⟩
      have hgg : (if told a b = 1 then nw b 1 else if told a b = 0 then nw a 1 else 0) = g := by rw [if_pos e, hgv]
      rw [← hgv]
      refine J_region ?_
      refine L_q (Q_move rfl) rfl rfl rfl ?_
      refine L_q (Q_addN g 1 rfl rfl rfl rfl) rfl rfl rfl ?_
      refine L_o rfl rfl rfl (O_call [] [0,1,2,3] (four_ok E ((g + 1) % 2 ^ 32)) rfl rfl ?_)
      rintro _ _ ⟨S1, rfl, rfl⟩
      refine JL.norm ?_
      refine L_q (Q_move rfl) rfl rfl rfl ?_
      refine L_q (Q_slen rfl) rfl rfl rfl ?_
      refine L_q (Q_cvtN body.length rfl rfl) rfl rfl rfl ?_
      refine L_o rfl rfl rfl (O_call [] [0,1,2,3,4] (four_ok E (body.length % 2 ^ 32)) rfl rfl ?_)
      rintro _ _ ⟨S2, rfl, rfl⟩
      refine JL.norm ?_
      refine L_o rfl rfl rfl (O_app (τ := tB) 1 rfl (fun w h => h.rd 0 rfl) rfl rfl rfl rfl (by simp [four]) (by decide) (fun S3 => ?_))
      refine JL.norm ?_
      refine L_q (Q_assign rfl) rfl rfl rfl ?_
      refine JL_nil ?_
      refine seqQ_normal ?_
      refine J_seq ?_
      refine J_region ?_
      refine L_q (Q_move rfl) rfl rfl rfl ?_
      refine L_q (Q_move rfl) rfl rfl rfl ?_
      refine L_o rfl rfl rfl (O_appS tB_enc 1 rfl rfl rfl rfl rfl (by simp [four]; omega) (by decide) (fun S4 => ?_))
      refine JL.norm ?_
      refine L_q (Q_assign rfl) rfl rfl rfl ?_
      refine JL_nil ?_
      refine seqQ_normal ?_
      refine J_seq ?_
      refine J_region ?_
      refine L_q (Q_move rfl) rfl rfl rfl ?_
      refine L_q (Q_b2s tB_enc (fun w h => h.rd 1 rfl) rfl) rfl rfl rfl ?_
      refine L_o rfl rfl rfl (O_call [] [0,1,2,3,4,5] (sum_ok E _ (by simp [four]; omega)) rfl rfl ?_)
      rintro _ _ ⟨rfl, rfl⟩
      refine JL.norm ?_
      refine L_o rfl rfl rfl (O_call [] [0,1,2,3,4,5] (four_ok E _) rfl rfl ?_)
      rintro _ _ ⟨S5, rfl, rfl⟩
      refine JL.norm ?_
      refine L_q (Q_move rfl) rfl rfl rfl ?_
      refine L_o rfl rfl rfl (O_app (τ := tB) 0 rfl (fun w h => h.rd 2 rfl) rfl rfl rfl rfl (by simp [four]; omega) (by decide) (fun S6 => ?_))
      refine JL.norm ?_
      refine L_q (Q_assign rfl) rfl rfl rfl ?_
      refine JL_nil ?_
      refine seqQ_normal ?_
      refine J_seq ?_
      refine J_seq ?_
      have hwr : wrote a b body upto = if 0 ≤ upto ∧ upto < ((four (crc (four ((g + 1) % 2 ^ 32) ++ four (body.length % 2 ^ 32) ++ body)) ++ (four ((g + 1) % 2 ^ 32) ++ four (body.length % 2 ^ 32) ++ body)).length : Int) then (four (crc (four ((g + 1) % 2 ^ 32) ++ four (body.length % 2 ^ 32) ++ body)) ++ (four ((g + 1) % 2 ^ 32) ++ four (body.length % 2 ^ 32) ++ body)).take upto.toNat else four (crc (four ((g + 1) % 2 ^ 32) ++ four (body.length % 2 ^ 32) ++ body)) ++ (four ((g + 1) % 2 ^ 32) ++ four (body.length % 2 ^ 32) ++ body) := by simp only [wrote, hgg]
      generalize four (crc (four ((g + 1) % 2 ^ 32) ++ four (body.length % 2 ^ 32) ++ body)) ++ (four ((g + 1) % 2 ^ 32) ++ four (body.length % 2 ^ 32) ++ body) = u at hwr ⊢
      by_cases hu0 : 0 ≤ upto
      · by_cases hu1 : upto < (u.length : Int)
        · obtain ⟨m, rfl⟩ : ∃ m : Nat, upto = (m : Int) := ⟨upto.toNat, by omega⟩
          have hm : m ≤ u.length := by omega
          rw [if_pos ⟨hu0, hu1⟩, Int.toNat_natCast] at hwr
          refine J_region ?_
          refine L_q (Q_move rfl) rfl rfl rfl ?_
          refine L_q ((Q_geq rfl rfl).as (v' := .bool true) (congrArg Value.bool (decide_eq_true hu0))) rfl rfl rfl ?_
          refine L_q (Q_move rfl) rfl rfl rfl ?_
          refine L_q (Q_move rfl) rfl rfl rfl ?_
          refine L_q (Q_move rfl) rfl rfl rfl ?_
          refine L_q (Q_lenAt 0 rfl rfl) rfl rfl rfl ?_
          refine L_q ((Q_lss rfl rfl).as (v' := .bool true) (congrArg Value.bool (decide_eq_true hu1))) rfl rfl rfl ?_
          refine L_q (Q_pickT rfl rfl) rfl rfl rfl ?_
          refine JL_nil ?_
          refine seqQ_normal ?_
          refine J_condT rfl ?_
          refine J_region ?_
          refine L_q (Q_move rfl) rfl rfl rfl ?_
          refine L_q (Q_move rfl) rfl rfl rfl ?_
          refine L_q (Q_slH m (fun w h => h.rd 0 rfl) rfl rfl rfl hm rfl) rfl rfl rfl ?_
          refine L_q (Q_assign rfl) rfl rfl rfl ?_
          refine JL_nil ?_
          refine seqQ_normal ?_
          refine J_seq ?_
          refine J_seq ?_
          refine J_region ?_
          refine L_q (Q_move rfl) rfl rfl rfl ?_
          refine L_q (Q_eql rfl rfl) rfl rfl rfl ?_
          refine JL_nil ?_
          refine seqQ_normal ?_
          refine J_condF rfl ?_
          refine J_region ?_
          refine L_q (Q_move rfl) rfl rfl rfl ?_
          refine L_q (Q_move rfl) rfl rfl rfl ?_
          refine L_q (Q_build rfl) rfl rfl rfl ?_
          refine L_q (Q_nilCheck rfl) rfl rfl rfl ?_
          refine L_q (Q_fa0 rfl) rfl rfl rfl ?_
          refine L_q (Q_ia (o' := 0) 0 rfl rfl rfl (by decide) (by decide)) rfl rfl rfl ?_
          refine L_s rfl rfl (O_st (sz := 1) (cs' := [(SV.sub S6 tB.sz 0 m).v, T.v]) 4 rfl rfl rfl rfl rfl (by simp [Value.oneCell', Value.cells]) (by simp) rfl ?_)
          refine JL.norm ?_
          refine JL_nil ?_
          refine seqQ_normal ?_
          refine J_seq ?_
          refine J_region ?_
          refine L_q (Q_assign rfl) rfl rfl rfl ?_
          refine JL_nil ?_
          refine seqQ_normal ?_
          refine J_ret ?_
          refine retQ_ret _ [cel p [(SV.sub S6 tB.sz 0 m).v, T.v] 92, slc tB true (SV.sub S6 tB.sz 0 m) ((u.take m).drop 0), slc tB true T b] (.cons (RV_tmp rfl) .nil) ⟨(SV.sub S6 tB.sz 0 m), T, by simp only [hdo]; first | done | rfl, by simp only [hdo, hwr]; first | done | rfl⟩ ?_
          exact (Ent.sub 0 0 m rfl (Nat.zero_le _) hm).trans (Ent.re [4,0,3,6] rfl)
        · rw [if_neg (fun h => hu1 h.2)] at hwr
          refine J_region ?_
          refine L_q (Q_move rfl) rfl rfl rfl ?_
          refine L_q ((Q_geq rfl rfl).as (v' := .bool true) (congrArg Value.bool (decide_eq_true hu0))) rfl rfl rfl ?_
          refine L_q (Q_move rfl) rfl rfl rfl ?_
          refine L_q (Q_move rfl) rfl rfl rfl ?_
          refine L_q (Q_move rfl) rfl rfl rfl ?_
          refine L_q (Q_lenAt 0 rfl rfl) rfl rfl rfl ?_
          refine L_q ((Q_lss rfl rfl).as (v' := .bool false) (congrArg Value.bool (decide_eq_false hu1))) rfl rfl rfl ?_
          refine L_q (Q_pickT rfl rfl) rfl rfl rfl ?_
          refine JL_nil ?_
          refine seqQ_normal ?_
          refine J_condF rfl ?_
          refine J_skip ?_
          refine seqQ_normal ?_
          refine J_seq ?_
          refine J_seq ?_
          refine J_region ?_
          refine L_q (Q_move rfl) rfl rfl rfl ?_
          refine L_q (Q_eql rfl rfl) rfl rfl rfl ?_
          refine JL_nil ?_
          refine seqQ_normal ?_
          refine J_condF rfl ?_
          refine J_region ?_
          refine L_q (Q_move rfl) rfl rfl rfl ?_
          refine L_q (Q_move rfl) rfl rfl rfl ?_
          refine L_q (Q_build rfl) rfl rfl rfl ?_
          refine L_q (Q_nilCheck rfl) rfl rfl rfl ?_
          refine L_q (Q_fa0 rfl) rfl rfl rfl ?_
          refine L_q (Q_ia (o' := 0) 0 rfl rfl rfl (by decide) (by decide)) rfl rfl rfl ?_
          refine L_s rfl rfl (O_st (sz := 1) (cs' := [S6.v, T.v]) 4 rfl rfl rfl rfl rfl (by simp [Value.oneCell', Value.cells]) (by simp) rfl ?_)
          refine JL.norm ?_
          refine JL_nil ?_
          refine seqQ_normal ?_
          refine J_seq ?_
          refine J_region ?_
          refine L_q (Q_assign rfl) rfl rfl rfl ?_
          refine JL_nil ?_
          refine seqQ_normal ?_
          refine J_ret ?_
          exact retQ_ret _ [cel p [S6.v, T.v] 92, slc tB true S6 u, slc tB true T b] (.cons (RV_tmp rfl) .nil) ⟨S6, T, by simp only [hdo]; first | done | rfl, by simp only [hdo, hwr]; first | done | rfl⟩ (Ent.re [4,0,3,6] rfl)
      · rw [if_neg (fun h => hu0 h.1)] at hwr
        refine J_region ?_
        refine L_q (Q_move rfl) rfl rfl rfl ?_
        refine L_q ((Q_geq rfl rfl).as (v' := .bool false) (congrArg Value.bool (decide_eq_false hu0))) rfl rfl rfl ?_
        refine L_q (Q_move rfl) rfl rfl rfl ?_
        refine L_n rfl rfl rfl ?_
        refine L_n rfl rfl rfl ?_
        refine L_n rfl rfl rfl ?_
        refine L_n rfl rfl rfl ?_
        refine L_q (Q_pickF rfl rfl) rfl rfl rfl ?_
        refine JL_nil ?_
        refine seqQ_normal ?_
        refine J_condF rfl ?_
        refine J_skip ?_
        refine seqQ_normal ?_
        refine J_seq ?_
        refine J_seq ?_
        refine J_region ?_
        refine L_q (Q_move rfl) rfl rfl rfl ?_
        refine L_q (Q_eql rfl rfl) rfl rfl rfl ?_
        refine JL_nil ?_
        refine seqQ_normal ?_
        refine J_condF rfl ?_
        refine J_region ?_
        refine L_q (Q_move rfl) rfl rfl rfl ?_
        refine L_q (Q_move rfl) rfl rfl rfl ?_
        refine L_q (Q_build rfl) rfl rfl rfl ?_
        refine L_q (Q_nilCheck rfl) rfl rfl rfl ?_
        refine L_q (Q_fa0 rfl) rfl rfl rfl ?_
        refine L_q (Q_ia (o' := 0) 0 rfl rfl rfl (by decide) (by decide)) rfl rfl rfl ?_
        refine L_s rfl rfl (O_st (sz := 1) (cs' := [S6.v, T.v]) 4 rfl rfl rfl rfl rfl (by simp [Value.oneCell', Value.cells]) (by simp) rfl ?_)
        refine JL.norm ?_
        refine JL_nil ?_
        refine seqQ_normal ?_
        refine J_seq ?_
        refine J_region ?_
        refine L_q (Q_assign rfl) rfl rfl rfl ?_
        refine JL_nil ?_
        refine seqQ_normal ?_
        refine J_ret ?_
        exact retQ_ret _ [cel p [S6.v, T.v] 92, slc tB true S6 u, slc tB true T b] (.cons (RV_tmp rfl) .nil) ⟨S6, T, by simp only [hdo]; first | done | rfl, by simp only [hdo, hwr]; first | done | rfl⟩ (Ent.re [4,0,3,6] rfl)
    · rw [e] at ht
      have hl := right_long hr
      have hdo : doW a b body upto = (a, wrote a b body upto, 0) := by rw [hd0, if_pos e]
      refine J_skip ?_
      refine seqQ_normal ?_
      refine J_seq ?_
      refine J_region ?_
      refine L_q (Q_move rfl) rfl rfl rfl ?_
      refine L_o rfl rfl rfl (O_call [0,1,2] [3] ht rfl rfl ?_)
      rintro _ _ ⟨rfl, rfl⟩
      refine JL.norm ?_
      refine L_q (Q_assign rfl) rfl rfl rfl ?_
      refine L_q (Q_assign rfl) rfl rfl rfl ?_
      refine JL_nil ?_
      refine seqQ_normal ?_
      refine J_seq ?_
      refine J_seq ?_
      refine J_region ?_
      refine L_q (Q_move rfl) rfl rfl rfl ?_
      refine L_q (Q_geq rfl rfl) rfl rfl rfl ?_
      refine JL_nil ?_
      refine seqQ_normal ?_
      refine J_condT rfl ?_
      refine J_region ?_
      refine L_q (Q_move rfl) rfl rfl rfl ?_
      refine L_q (Q_move rfl) rfl rfl rfl ?_
      refine L_q (Q_nilCheck rfl) rfl rfl rfl ?_
      refine L_q (Q_fa0 rfl) rfl rfl rfl ?_
      refine L_q (Q_ia (o' := 0) 0 rfl rfl rfl (by decide) (by decide)) rfl rfl rfl ?_
      refine L_q (Q_ldA 0 rfl rfl rfl) rfl rfl rfl ?_
      refine L_o rfl rfl rfl (O_call [1] [0,2,3] (words_ok E S a hl) rfl rfl ?_)
      rintro _ _ ⟨rfl, rfl⟩
      refine JL.norm ?_
      refine L_q (Q_aiS (v' := .int .u32 (nw a 1 : Int)) 1 rfl rfl rfl (by decide) rfl rfl) rfl rfl rfl ?_
      refine L_q (Q_assign rfl) rfl rfl rfl ?_
      refine JL_nil ?_
      refine seqQ_normal ?_
      refine J_seq ?_
      obtain ⟨g, hgv⟩ : ∃ g : Nat, g = nw a 1 := ⟨_, rfl⟩
      have hgg : (if told a b = 1 then nw b 1 else if told a b = 0 then nw a 1 else 0) = g := by rw [if_neg (by omega), if_pos e, hgv]
      rw [← hgv]
      refine J_region ?_
      refine L_q (Q_move rfl) rfl rfl rfl ?_
      refine L_q (Q_addN g 1 rfl rfl rfl rfl) rfl rfl rfl ?_
      refine L_o rfl rfl rfl (O_call [] [0,1,2,3] (four_ok E ((g + 1) % 2 ^ 32)) rfl rfl ?_)
      rintro _ _ ⟨S1, rfl, rfl⟩
      refine JL.norm ?_
      refine L_q (Q_move rfl) rfl rfl rfl ?_
      refine L_q (Q_slen rfl) rfl rfl rfl ?_
      refine L_q (Q_cvtN body.length rfl rfl) rfl rfl rfl ?_
      refine L_o rfl rfl rfl (O_call [] [0,1,2,3,4] (four_ok E (body.length % 2 ^ 32)) rfl rfl ?_)
      rintro _ _ ⟨S2, rfl, rfl⟩
      refine JL.norm ?_
      refine L_o rfl rfl rfl (O_app (τ := tB) 1 rfl (fun w h => h.rd 0 rfl) rfl rfl rfl rfl (by simp [four]) (by decide) (fun S3 => ?_))
      refine JL.norm ?_
      refine L_q (Q_assign rfl) rfl rfl rfl ?_
      refine JL_nil ?_
      refine seqQ_normal ?_
      refine J_seq ?_
      refine J_region ?_
      refine L_q (Q_move rfl) rfl rfl rfl ?_
      refine L_q (Q_move rfl) rfl rfl rfl ?_
      refine L_o rfl rfl rfl (O_appS tB_enc 1 rfl rfl rfl rfl rfl (by simp [four]; omega) (by decide) (fun S4 => ?_))
      refine JL.norm ?_
      refine L_q (Q_assign rfl) rfl rfl rfl ?_
      refine JL_nil ?_
      refine seqQ_normal ?_
      refine J_seq ?_
      refine J_region ?_
      refine L_q (Q_move rfl) rfl rfl rfl ?_
      refine L_q (Q_b2s tB_enc (fun w h => h.rd 1 rfl) rfl) rfl rfl rfl ?_
      refine L_o rfl rfl rfl (O_call [] [0,1,2,3,4,5] (sum_ok E _ (by simp [four]; omega)) rfl rfl ?_)
      rintro _ _ ⟨rfl, rfl⟩
      refine JL.norm ?_
      refine L_o rfl rfl rfl (O_call [] [0,1,2,3,4,5] (four_ok E _) rfl rfl ?_)
      rintro _ _ ⟨S5, rfl, rfl⟩
      refine JL.norm ?_
      refine L_q (Q_move rfl) rfl rfl rfl ?_
      refine L_o rfl rfl rfl (O_app (τ := tB) 0 rfl (fun w h => h.rd 2 rfl) rfl rfl rfl rfl (by simp [four]; omega) (by decide) (fun S6 => ?_))
      refine JL.norm ?_
      refine L_q (Q_assign rfl) rfl rfl rfl ?_
      refine JL_nil ?_
      refine seqQ_normal ?_
      refine J_seq ?_
      refine J_seq ?_
      have hwr : wrote a b body upto = if 0 ≤ upto ∧ upto < ((four (crc (four ((g + 1) % 2 ^ 32) ++ four (body.length % 2 ^ 32) ++ body)) ++ (four ((g + 1) % 2 ^ 32) ++ four (body.length % 2 ^ 32) ++ body)).length : Int) then (four (crc (four ((g + 1) % 2 ^ 32) ++ four (body.length % 2 ^ 32) ++ body)) ++ (four ((g + 1) % 2 ^ 32) ++ four (body.length % 2 ^ 32) ++ body)).take upto.toNat else four (crc (four ((g + 1) % 2 ^ 32) ++ four (body.length % 2 ^ 32) ++ body)) ++ (four ((g + 1) % 2 ^ 32) ++ four (body.length % 2 ^ 32) ++ body) := by simp only [wrote, hgg]
      generalize four (crc (four ((g + 1) % 2 ^ 32) ++ four (body.length % 2 ^ 32) ++ body)) ++ (four ((g + 1) % 2 ^ 32) ++ four (body.length % 2 ^ 32) ++ body) = u at hwr ⊢
      by_cases hu0 : 0 ≤ upto
      · by_cases hu1 : upto < (u.length : Int)
        · obtain ⟨m, rfl⟩ : ∃ m : Nat, upto = (m : Int) := ⟨upto.toNat, by omega⟩
          have hm : m ≤ u.length := by omega
          rw [if_pos ⟨hu0, hu1⟩, Int.toNat_natCast] at hwr
          refine J_region ?_
          refine L_q (Q_move rfl) rfl rfl rfl ?_
          refine L_q ((Q_geq rfl rfl).as (v' := .bool true) (congrArg Value.bool (decide_eq_true hu0))) rfl rfl rfl ?_
          refine L_q (Q_move rfl) rfl rfl rfl ?_
          refine L_q (Q_move rfl) rfl rfl rfl ?_
          refine L_q (Q_move rfl) rfl rfl rfl ?_
          refine L_q (Q_lenAt 0 rfl rfl) rfl rfl rfl ?_
          refine L_q ((Q_lss rfl rfl).as (v' := .bool true) (congrArg Value.bool (decide_eq_true hu1))) rfl rfl rfl ?_
          refine L_q (Q_pickT rfl rfl) rfl rfl rfl ?_
          refine JL_nil ?_
          refine seqQ_normal ?_
          refine J_condT rfl ?_
          refine J_region ?_
          refine L_q (Q_move rfl) rfl rfl rfl ?_
          refine L_q (Q_move rfl) rfl rfl rfl ?_
          refine L_q (Q_slH m (fun w h => h.rd 0 rfl) rfl rfl rfl hm rfl) rfl rfl rfl ?_
          refine L_q (Q_assign rfl) rfl rfl rfl ?_
          refine JL_nil ?_
          refine seqQ_normal ?_
          refine J_seq ?_
          refine J_seq ?_
          refine J_region ?_
          refine L_q (Q_move rfl) rfl rfl rfl ?_
          refine L_q (Q_eql rfl rfl) rfl rfl rfl ?_
          refine JL_nil ?_
          refine seqQ_normal ?_
          refine J_condT rfl ?_
          refine J_region ?_
          refine L_q (Q_move rfl) rfl rfl rfl ?_
          refine L_q (Q_move rfl) rfl rfl rfl ?_
          refine L_q (Q_build rfl) rfl rfl rfl ?_
          refine L_q (Q_nilCheck rfl) rfl rfl rfl ?_
          refine L_q (Q_fa0 rfl) rfl rfl rfl ?_
          refine L_q (Q_ia (o' := 1) 1 rfl rfl rfl (by decide) (by decide)) rfl rfl rfl ?_
          refine L_s rfl rfl (O_st (sz := 1) (cs' := [S.v, (SV.sub S6 tB.sz 0 m).v]) 4 rfl rfl rfl rfl rfl (by simp [Value.oneCell', Value.cells]) (by simp) rfl ?_)
          refine JL.norm ?_
          refine JL_nil ?_
          refine seqQ_normal ?_
          refine J_seq ?_
          refine J_region ?_
          refine L_q (Q_assign rfl) rfl rfl rfl ?_
          refine JL_nil ?_
          refine seqQ_normal ?_
          refine J_ret ?_
          refine retQ_ret _ [cel p [S.v, (SV.sub S6 tB.sz 0 m).v] 92, slc tB true S a, slc tB true (SV.sub S6 tB.sz 0 m) ((u.take m).drop 0)] (.cons (RV_tmp rfl) .nil) ⟨S, (SV.sub S6 tB.sz 0 m), by simp only [hdo]; first | done | rfl, by simp only [hdo, hwr]; first | done | rfl⟩ ?_
          exact (Ent.sub 0 0 m rfl (Nat.zero_le _) hm).trans (Ent.re [4,3,0,6] rfl)
        · rw [if_neg (fun h => hu1 h.2)] at hwr
          refine J_region ?_
          refine L_q (Q_move rfl) rfl rfl rfl ?_
          refine L_q ((Q_geq rfl rfl).as (v' := .bool true) (congrArg Value.bool (decide_eq_true hu0))) rfl rfl rfl ?_
          refine L_q (Q_move rfl) rfl rfl rfl ?_
          refine L_q (Q_move rfl) rfl rfl rfl ?_
          refine L_q (Q_move rfl) rfl rfl rfl ?_
          refine L_q (Q_lenAt 0 rfl rfl) rfl rfl rfl ?_
          refine L_q ((Q_lss rfl rfl).as (v' := .bool false) (congrArg Value.bool (decide_eq_false hu1))) rfl rfl rfl ?_
          refine L_q (Q_pickT rfl rfl) rfl rfl rfl ?_
          refine JL_nil ?_
          refine seqQ_normal ?_
          refine J_condF rfl ?_
          refine J_skip ?_
          refine seqQ_normal ?_
          refine J_seq ?_
          refine J_seq ?_
          refine J_region ?_
          refine L_q (Q_move rfl) rfl rfl rfl ?_
          refine L_q (Q_eql rfl rfl) rfl rfl rfl ?_
          refine JL_nil ?_
          refine seqQ_normal ?_
          refine J_condT rfl ?_
          refine J_region ?_
          refine L_q (Q_move rfl) rfl rfl rfl ?_
          refine L_q (Q_move rfl) rfl rfl rfl ?_
          refine L_q (Q_build rfl) rfl rfl rfl ?_
          refine L_q (Q_nilCheck rfl) rfl rfl rfl ?_
          refine L_q (Q_fa0 rfl) rfl rfl rfl ?_
          refine L_q (Q_ia (o' := 1) 1 rfl rfl rfl (by decide) (by decide)) rfl rfl rfl ?_
          refine L_s rfl rfl (O_st (sz := 1) (cs' := [S.v, S6.v]) 4 rfl rfl rfl rfl rfl (by simp [Value.oneCell', Value.cells]) (by simp) rfl ?_)
          refine JL.norm ?_
          refine JL_nil ?_
          refine seqQ_normal ?_
          refine J_seq ?_
          refine J_region ?_
          refine L_q (Q_assign rfl) rfl rfl rfl ?_
          refine JL_nil ?_
          refine seqQ_normal ?_
          refine J_ret ?_
          exact retQ_ret _ [cel p [S.v, S6.v] 92, slc tB true S a, slc tB true S6 u] (.cons (RV_tmp rfl) .nil) ⟨S, S6, by simp only [hdo]; first | done | rfl, by simp only [hdo, hwr]; first | done | rfl⟩ (Ent.re [4,3,0,6] rfl)
      · rw [if_neg (fun h => hu0 h.1)] at hwr
        refine J_region ?_
        refine L_q (Q_move rfl) rfl rfl rfl ?_
        refine L_q ((Q_geq rfl rfl).as (v' := .bool false) (congrArg Value.bool (decide_eq_false hu0))) rfl rfl rfl ?_
        refine L_q (Q_move rfl) rfl rfl rfl ?_
        refine L_n rfl rfl rfl ?_
        refine L_n rfl rfl rfl ?_
        refine L_n rfl rfl rfl ?_
        refine L_n rfl rfl rfl ?_
        refine L_q (Q_pickF rfl rfl) rfl rfl rfl ?_
        refine JL_nil ?_
        refine seqQ_normal ?_
        refine J_condF rfl ?_
        refine J_skip ?_
        refine seqQ_normal ?_
        refine J_seq ?_
        refine J_seq ?_
        refine J_region ?_
        refine L_q (Q_move rfl) rfl rfl rfl ?_
        refine L_q (Q_eql rfl rfl) rfl rfl rfl ?_
        refine JL_nil ?_
        refine seqQ_normal ?_
        refine J_condT rfl ?_
        refine J_region ?_
        refine L_q (Q_move rfl) rfl rfl rfl ?_
        refine L_q (Q_move rfl) rfl rfl rfl ?_
        refine L_q (Q_build rfl) rfl rfl rfl ?_
        refine L_q (Q_nilCheck rfl) rfl rfl rfl ?_
        refine L_q (Q_fa0 rfl) rfl rfl rfl ?_
        refine L_q (Q_ia (o' := 1) 1 rfl rfl rfl (by decide) (by decide)) rfl rfl rfl ?_
        refine L_s rfl rfl (O_st (sz := 1) (cs' := [S.v, S6.v]) 4 rfl rfl rfl rfl rfl (by simp [Value.oneCell', Value.cells]) (by simp) rfl ?_)
        refine JL.norm ?_
        refine JL_nil ?_
        refine seqQ_normal ?_
        refine J_seq ?_
        refine J_region ?_
        refine L_q (Q_assign rfl) rfl rfl rfl ?_
        refine JL_nil ?_
        refine seqQ_normal ?_
        refine J_ret ?_
        exact retQ_ret _ [cel p [S.v, S6.v] 92, slc tB true S a, slc tB true S6 u] (.cons (RV_tmp rfl) .nil) ⟨S, S6, by simp only [hdo]; first | done | rfl, by simp only [hdo, hwr]; first | done | rfl⟩ (Ent.re [4,3,0,6] rfl)
    · rw [e] at ht
      have hdo : doW a b body upto = (wrote a b body upto, b, 0) := by rw [hd0, if_neg (by omega)]
      refine J_skip ?_
      refine seqQ_normal ?_
      refine J_seq ?_
      refine J_region ?_
      refine L_q (Q_move rfl) rfl rfl rfl ?_
      refine L_o rfl rfl rfl (O_call [0,1,2] [3] ht rfl rfl ?_)
      rintro _ _ ⟨rfl, rfl⟩
      refine JL.norm ?_
      refine L_q (Q_assign rfl) rfl rfl rfl ?_
      refine L_q (Q_assign rfl) rfl rfl rfl ?_
      refine JL_nil ?_
      refine seqQ_normal ?_
      refine J_seq ?_
      refine J_seq ?_
      refine J_region ?_
      refine L_q (Q_move rfl) rfl rfl rfl ?_
      refine L_q (Q_geq rfl rfl) rfl rfl rfl ?_
      refine JL_nil ?_
      refine seqQ_normal ?_
      refine J_condF rfl ?_
      refine J_skip ?_
      refine seqQ_normal ?_
      refine J_seq ?_
      obtain ⟨g, hg0⟩ : ∃ g : Nat, g = 0 := ⟨0, rfl⟩
      have hgg : (if told a b = 1 then nw b 1 else if told a b = 0 then nw a 1 else 0) = g := by rw [if_neg (by omega), if_neg (by omega), hg0]
      refine J_region ?_
      refine L_q (Q_move rfl) rfl rfl rfl ?_
      refine L_q (Q_addN g 1 rfl rfl (by rw [hg0]; rfl) rfl) rfl rfl rfl ?_
      refine L_o rfl rfl rfl (O_call [] [0,1,2,3] (four_ok E ((g + 1) % 2 ^ 32)) rfl rfl ?_)
      rintro _ _ ⟨S1, rfl, rfl⟩
      refine JL.norm ?_
      refine L_q (Q_move rfl) rfl rfl rfl ?_
      refine L_q (Q_slen rfl) rfl rfl rfl ?_
      refine L_q (Q_cvtN body.length rfl rfl) rfl rfl rfl ?_
      refine L_o rfl rfl rfl (O_call [] [0,1,2,3,4] (four_ok E (body.length % 2 ^ 32)) rfl rfl ?_)
      rintro _ _ ⟨S2, rfl, rfl⟩
      refine JL.norm ?_
      refine L_o rfl rfl rfl (O_app (τ := tB) 1 rfl (fun w h => h.rd 0 rfl) rfl rfl rfl rfl (by simp [four]) (by decide) (fun S3 => ?_))
      refine JL.norm ?_
      refine L_q (Q_assign rfl) rfl rfl rfl ?_
      refine JL_nil ?_
      refine seqQ_normal ?_
      refine J_seq ?_
      refine J_region ?_
      refine L_q (Q_move rfl) rfl rfl rfl ?_
      refine L_q (Q_move rfl) rfl rfl rfl ?_
      refine L_o rfl rfl rfl (O_appS tB_enc 1 rfl rfl rfl rfl rfl (by simp [four]; omega) (by decide) (fun S4 => ?_))
      refine JL.norm ?_
      refine L_q (Q_assign rfl) rfl rfl rfl ?_
      refine JL_nil ?_
      refine seqQ_normal ?_
      refine J_seq ?_
      refine J_region ?_
      refine L_q (Q_move rfl) rfl rfl rfl ?_
      refine L_q (Q_b2s tB_enc (fun w h => h.rd 1 rfl) rfl) rfl rfl rfl ?_
      refine L_o rfl rfl rfl (O_call [] [0,1,2,3,4,5] (sum_ok E _ (by simp [four]; omega)) rfl rfl ?_)
      rintro _ _ ⟨rfl, rfl⟩
      refine JL.norm ?_
      refine L_o rfl rfl rfl (O_call [] [0,1,2,3,4,5] (four_ok E _) rfl rfl ?_)
      rintro _ _ ⟨S5, rfl, rfl⟩
      refine JL.norm ?_
      refine L_q (Q_move rfl) rfl rfl rfl ?_
      refine L_o rfl rfl rfl (O_app (τ := tB) 0 rfl (fun w h => h.rd 2 rfl) rfl rfl rfl rfl (by simp [four]; omega) (by decide) (fun S6 => ?_))
      refine JL.norm ?_
      refine L_q (Q_assign rfl) rfl rfl rfl ?_
      refine JL_nil ?_
      refine seqQ_normal ?_
      refine J_seq ?_
      refine J_seq ?_
      have hwr : wrote a b body upto = if 0 ≤ upto ∧ upto < ((four (crc (four ((g + 1) % 2 ^ 32) ++ four (body.length % 2 ^ 32) ++ body)) ++ (four ((g + 1) % 2 ^ 32) ++ four (body.length % 2 ^ 32) ++ body)).length : Int) then (four (crc (four ((g + 1) % 2 ^ 32) ++ four (body.length % 2 ^ 32) ++ body)) ++ (four ((g + 1) % 2 ^ 32) ++ four (body.length % 2 ^ 32) ++ body)).take upto.toNat else four (crc (four ((g + 1) % 2 ^ 32) ++ four (body.length % 2 ^ 32) ++ body)) ++ (four ((g + 1) % 2 ^ 32) ++ four (body.length % 2 ^ 32) ++ body) := by simp only [wrote, hgg]
      generalize four (crc (four ((g + 1) % 2 ^ 32) ++ four (body.length % 2 ^ 32) ++ body)) ++ (four ((g + 1) % 2 ^ 32) ++ four (body.length % 2 ^ 32) ++ body) = u at hwr ⊢
      by_cases hu0 : 0 ≤ upto
      · by_cases hu1 : upto < (u.length : Int)
        · obtain ⟨m, rfl⟩ : ∃ m : Nat, upto = (m : Int) := ⟨upto.toNat, by omega⟩
          have hm : m ≤ u.length := by omega
          rw [if_pos ⟨hu0, hu1⟩, Int.toNat_natCast] at hwr
          refine J_region ?_
          refine L_q (Q_move rfl) rfl rfl rfl ?_
          refine L_q ((Q_geq rfl rfl).as (v' := .bool true) (congrArg Value.bool (decide_eq_true hu0))) rfl rfl rfl ?_
          refine L_q (Q_move rfl) rfl rfl rfl ?_
          refine L_q (Q_move rfl) rfl rfl rfl ?_
          refine L_q (Q_move rfl) rfl rfl rfl ?_
          refine L_q (Q_lenAt 0 rfl rfl) rfl rfl rfl ?_
          refine L_q ((Q_lss rfl rfl).as (v' := .bool true) (congrArg Value.bool (decide_eq_true hu1))) rfl rfl rfl ?_
          refine L_q (Q_pickT rfl rfl) rfl rfl rfl ?_
          refine JL_nil ?_
          refine seqQ_normal ?_
          refine J_condT rfl ?_
          refine J_region ?_
          refine L_q (Q_move rfl) rfl rfl rfl ?_
          refine L_q (Q_move rfl) rfl rfl rfl ?_
          refine L_q (Q_slH m (fun w h => h.rd 0 rfl) rfl rfl rfl hm rfl) rfl rfl rfl ?_
          refine L_q (Q_assign rfl) rfl rfl rfl ?_
          refine JL_nil ?_
          refine seqQ_normal ?_
          refine J_seq ?_
          refine J_seq ?_
          refine J_region ?_
          refine L_q (Q_move rfl) rfl rfl rfl ?_
          refine L_q (Q_eql rfl rfl) rfl rfl rfl ?_
          refine JL_nil ?_
          refine seqQ_normal ?_
          refine J_condF rfl ?_
          refine J_region ?_
          refine L_q (Q_move rfl) rfl rfl rfl ?_
          refine L_q (Q_move rfl) rfl rfl rfl ?_
          refine L_q (Q_build rfl) rfl rfl rfl ?_
          refine L_q (Q_nilCheck rfl) rfl rfl rfl ?_
          refine L_q (Q_fa0 rfl) rfl rfl rfl ?_
          refine L_q (Q_ia (o' := 0) 0 rfl rfl rfl (by decide) (by decide)) rfl rfl rfl ?_
          refine L_s rfl rfl (O_st (sz := 1) (cs' := [(SV.sub S6 tB.sz 0 m).v, T.v]) 3 rfl rfl rfl rfl rfl (by simp [Value.oneCell', Value.cells]) (by simp) rfl ?_)
          refine JL.norm ?_
          refine JL_nil ?_
          refine seqQ_normal ?_
          refine J_seq ?_
          refine J_region ?_
          refine L_q (Q_assign rfl) rfl rfl rfl ?_
          refine JL_nil ?_
          refine seqQ_normal ?_
          refine J_ret ?_
          refine retQ_ret _ [cel p [(SV.sub S6 tB.sz 0 m).v, T.v] 92, slc tB true (SV.sub S6 tB.sz 0 m) ((u.take m).drop 0), slc tB true T b] (.cons (RV_tmp rfl) .nil) ⟨(SV.sub S6 tB.sz 0 m), T, by simp only [hdo]; first | done | rfl, by simp only [hdo, hwr]; first | done | rfl⟩ ?_
          exact (Ent.sub 0 0 m rfl (Nat.zero_le _) hm).trans (Ent.re [3,0,5,6] rfl)
        · rw [if_neg (fun h => hu1 h.2)] at hwr
          refine J_region ?_
          refine L_q (Q_move rfl) rfl rfl rfl ?_
          refine L_q ((Q_geq rfl rfl).as (v' := .bool true) (congrArg Value.bool (decide_eq_true hu0))) rfl rfl rfl ?_
          refine L_q (Q_move rfl) rfl rfl rfl ?_
          refine L_q (Q_move rfl) rfl rfl rfl ?_
          refine L_q (Q_move rfl) rfl rfl rfl ?_
          refine L_q (Q_lenAt 0 rfl rfl) rfl rfl rfl ?_
          refine L_q ((Q_lss rfl rfl).as (v' := .bool false) (congrArg Value.bool (decide_eq_false hu1))) rfl rfl rfl ?_
          refine L_q (Q_pickT rfl rfl) rfl rfl rfl ?_
          refine JL_nil ?_
          refine seqQ_normal ?_
          refine J_condF rfl ?_
          refine J_skip ?_
          refine seqQ_normal ?_
          refine J_seq ?_
          refine J_seq ?_
          refine J_region ?_
          refine L_q (Q_move rfl) rfl rfl rfl ?_
          refine L_q (Q_eql rfl rfl) rfl rfl rfl ?_
          refine JL_nil ?_
          refine seqQ_normal ?_
          refine J_condF rfl ?_
          refine J_region ?_
          refine L_q (Q_move rfl) rfl rfl rfl ?_
          refine L_q (Q_move rfl) rfl rfl rfl ?_
          refine L_q (Q_build rfl) rfl rfl rfl ?_
          refine L_q (Q_nilCheck rfl) rfl rfl rfl ?_
          refine L_q (Q_fa0 rfl) rfl rfl rfl ?_
          refine L_q (Q_ia (o' := 0) 0 rfl rfl rfl (by decide) (by decide)) rfl rfl rfl ?_
          refine L_s rfl rfl (O_st (sz := 1) (cs' := [S6.v, T.v]) 3 rfl rfl rfl rfl rfl (by simp [Value.oneCell', Value.cells]) (by simp) rfl ?_)
          refine JL.norm ?_
          refine JL_nil ?_
          refine seqQ_normal ?_
          refine J_seq ?_
          refine J_region ?_
          refine L_q (Q_assign rfl) rfl rfl rfl ?_
          refine JL_nil ?_
          refine seqQ_normal ?_
          refine J_ret ?_
          exact retQ_ret _ [cel p [S6.v, T.v] 92, slc tB true S6 u, slc tB true T b] (.cons (RV_tmp rfl) .nil) ⟨S6, T, by simp only [hdo]; first | done | rfl, by simp only [hdo, hwr]; first | done | rfl⟩ (Ent.re [3,0,5,6] rfl)
      · rw [if_neg (fun h => hu0 h.1)] at hwr
        refine J_region ?_
        refine L_q (Q_move rfl) rfl rfl rfl ?_
        refine L_q ((Q_geq rfl rfl).as (v' := .bool false) (congrArg Value.bool (decide_eq_false hu0))) rfl rfl rfl ?_
        refine L_q (Q_move rfl) rfl rfl rfl ?_
        refine L_n rfl rfl rfl ?_
        refine L_n rfl rfl rfl ?_
        refine L_n rfl rfl rfl ?_
        refine L_n rfl rfl rfl ?_
        refine L_q (Q_pickF rfl rfl) rfl rfl rfl ?_
        refine JL_nil ?_
        refine seqQ_normal ?_
        refine J_condF rfl ?_
        refine J_skip ?_
        refine seqQ_normal ?_
        refine J_seq ?_
        refine J_seq ?_
        refine J_region ?_
        refine L_q (Q_move rfl) rfl rfl rfl ?_
        refine L_q (Q_eql rfl rfl) rfl rfl rfl ?_
        refine JL_nil ?_
        refine seqQ_normal ?_
        refine J_condF rfl ?_
        refine J_region ?_
        refine L_q (Q_move rfl) rfl rfl rfl ?_
        refine L_q (Q_move rfl) rfl rfl rfl ?_
        refine L_q (Q_build rfl) rfl rfl rfl ?_
        refine L_q (Q_nilCheck rfl) rfl rfl rfl ?_
        refine L_q (Q_fa0 rfl) rfl rfl rfl ?_
        refine L_q (Q_ia (o' := 0) 0 rfl rfl rfl (by decide) (by decide)) rfl rfl rfl ?_
        refine L_s rfl rfl (O_st (sz := 1) (cs' := [S6.v, T.v]) 3 rfl rfl rfl rfl rfl (by simp [Value.oneCell', Value.cells]) (by simp) rfl ?_)
        refine JL.norm ?_
        refine JL_nil ?_
        refine seqQ_normal ?_
        refine J_seq ?_
        refine J_region ?_
        refine L_q (Q_assign rfl) rfl rfl rfl ?_
        refine JL_nil ?_
        refine seqQ_normal ?_
        refine J_ret ?_
        exact retQ_ret _ [cel p [S6.v, T.v] 92, slc tB true S6 u, slc tB true T b] (.cons (RV_tmp rfl) .nil) ⟨S6, T, by simp only [hdo]; first | done | rfl, by simp only [hdo, hwr]; first | done | rfl⟩ (Ent.re [3,0,5,6] rfl)
end Go.Proofs
/- What is told of the slots, and a byte spoilt. -/
set_option autoImplicit false
namespace Go.Proofs
open Go.SL
attribute [local irreducible] J JL QOp JOp seqQ blockQ loopQ retQ slc cel hex star pur stars Does RV Ent pAt
/-- What a load tells. -/
def loadT (a b : List UInt8) : List UInt8 := if told a b = 1 then b.drop 12 else if told a b = 0 then a.drop 12 else []
def loadN (a b : List UInt8) : Nat := if told a b = 1 then nw b 1 else if told a b = 0 then nw a 1 else 0
theorem load_ok (E : World) (p : Nat) (S T : SV) (a b : List UInt8) (ha : a.length ≤ 100000) (hb : b.length ≤ 100000) :
    Does Tryz.prog E 28 [.pointer (some ⟨p, 0, none⟩)] [cel p [S.v, T.v] 92, slc tB true S a, slc tB true T b] fun v L => v = .tuple #[str (loadT a b), .int .i64 (loadN a b : Int)] ∧ L = [cel p [S.v, T.v] 92, slc tB true S a, slc tB true T b] := by
  have ht := told_ok E p S T a b ha hb
  refine Does.of Tryz.func28 rfl Tryz.ntmps28 rfl rfl fun F => ?_
  refine J.norm ?_
  refine J_seq ?_
  refine J_region ?_
  refine L_q (Q_assign rfl) rfl rfl rfl ?_
  refine L_q (Q_assign rfl) rfl rfl rfl ?_
  refine JL_nil ?_
  refine seqQ_normal ?_
  refine J_seq ?_
  refine J_seq ?_
  refine J_region ?_
  refine L_q (Q_move rfl) rfl rfl rfl ?_
  refine L_q (Q_peql rfl rfl) rfl rfl rfl ?_
  refine JL_nil ?_
  refine seqQ_normal ?_
  refine J_condF rfl ?_
  refine J_skip ?_
  refine seqQ_normal ?_
  refine J_seq ?_
  rcases told_cases a b with ⟨e, hr⟩ | ⟨e, hr⟩ | e
  · rw [e] at ht
    have hl := right_long hr
    have h1 : loadT a b = b.drop 12 := by simp only [loadT, if_pos e]
    have h2 : loadN a b = nw b 1 := by simp only [loadN, if_pos e]
    have hn := nw_lt b 1
    refine J_region ?_
    refine L_q (Q_move rfl) rfl rfl rfl ?_
    refine L_o rfl rfl rfl (O_call [0,1,2] [3] ht rfl rfl ?_)
    rintro _ _ ⟨rfl, rfl⟩
    refine JL.norm ?_
    refine L_q (Q_assign rfl) rfl rfl rfl ?_
    refine JL_nil ?_
    refine seqQ_normal ?_
    refine J_seq ?_
    refine J_seq ?_
    refine J_region ?_
    refine L_q (Q_move rfl) rfl rfl rfl ?_
    refine L_q (Q_lss rfl rfl) rfl rfl rfl ?_
    refine JL_nil ?_
    refine seqQ_normal ?_
    refine J_condF rfl ?_
    refine J_skip ?_
    refine seqQ_normal ?_
    refine J_seq ?_
    refine J_region ?_
    refine L_q (Q_move rfl) rfl rfl rfl ?_
    refine L_q (Q_move rfl) rfl rfl rfl ?_
    refine L_q (Q_nilCheck rfl) rfl rfl rfl ?_
    refine L_q (Q_fa0 rfl) rfl rfl rfl ?_
    refine L_q (Q_ia (o' := 1) 1 rfl rfl rfl (by decide) (by decide)) rfl rfl rfl ?_
    refine L_q (Q_ldA 0 rfl rfl rfl) rfl rfl rfl ?_
    refine L_o rfl rfl rfl (O_alloc fun b5 => ?_)
    refine L_s rfl rfl (O_stW 0 rfl rfl rfl rfl ?_)
    refine JL.norm ?_
    refine JL_nil ?_
    refine seqQ_normal ?_
    refine J_seq ?_
    refine J_drawH [0,3] [0, 1, 2, 3, 4, 6, 7, 8, 9] (.quiet 0 (.quiet 1 (.quiet 2 (.quiet 3 (.quiet 4 (.loud 5 (.quiet 6 (.quiet 7 (.quiet 8 (.quiet 9 .done)))))))))) Tryz.mixed (by kernel_rfl) (by kernel_rfl) (by repeat (first | exact retQ_noP | refine seqQ_noP ?_ | refine blockQ_noP ?_ | refine loopQ_noP ?_ | refine scopeQ_noP ?_ | (intro _ _ _ h; cases h.1))) ?_
    refine S_q (Ent.re [0,3] rfl) rfl (Q_fa0 rfl) rfl rfl rfl ?_
    refine S_q (Ent.re [0,3] rfl) rfl (Q_ld 0 rfl rfl rfl rfl) rfl rfl rfl ?_
    refine S_q (Ent.re [0,3] rfl) rfl (Q_slL 12 (fun w h => h.rd 1 rfl) rfl rfl rfl hl rfl) rfl rfl rfl ?_
    refine S_q (Ent.re [0,3] rfl) rfl (Q_b2s tB_enc (fun w h => (h.rd 1 rfl).sub 12 b.length hl (Nat.le_refl _)) rfl) rfl rfl rfl ?_
    refine S_q (Ent.re [0,3] rfl) rfl (Q_ldA 0 rfl rfl rfl) rfl rfl rfl ?_
    refine S_o rfl rfl rfl rfl (O_call [3] [0,1,2,4] (words_ok E T b hl) rfl rfl ?_)
    (rintro _ _ ⟨rfl, rfl⟩; refine ⟨_, fun _ => ⟨Ent.reN [1,0] rfl, Ent.refl _⟩, ?_⟩)
    refine JS.norm ?_
    refine S_q (Ent.re [1,0] rfl) rfl (Q_aiS (v' := .int .u32 (nw b 1 : Int)) 1 rfl rfl rfl (by decide) rfl rfl) rfl rfl rfl ?_
    refine S_q (Ent.re [1,0] rfl) rfl (Q_cvt rfl (IntWalk.i64_in _ (by omega))) rfl rfl rfl ?_
    refine S_q (Ent.re [1,0] rfl) rfl (Q_assign rfl) rfl rfl rfl ?_
    refine S_q (Ent.re [1,0] rfl) rfl (Q_assign rfl) rfl rfl rfl ?_
    refine S_nil ?_
    refine seqQ_normal ?_
    refine J_ret ?_
    rw [List.take_length]
    exact retQ_ret _ [cel p [S.v, T.v] 92, slc tB true S a, slc tB true T b] (.cons (RV_tmp rfl) (.cons (RV_tmp rfl) .nil)) ⟨by rw [h1, h2]; rfl, rfl⟩ (Ent.re [2, 3, 0, 4] rfl)
  · rw [e] at ht
    have hl := right_long hr
    have h1 : loadT a b = a.drop 12 := by simp only [loadT, e]; rfl
    have h2 : loadN a b = nw a 1 := by simp only [loadN, e]; rfl
    have hn := nw_lt a 1
    refine J_region ?_
    refine L_q (Q_move rfl) rfl rfl rfl ?_
    refine L_o rfl rfl rfl (O_call [0,1,2] [3] ht rfl rfl ?_)
    rintro _ _ ⟨rfl, rfl⟩
    refine JL.norm ?_
    refine L_q (Q_assign rfl) rfl rfl rfl ?_
    refine JL_nil ?_
    refine seqQ_normal ?_
    refine J_seq ?_
    refine J_seq ?_
    refine J_region ?_
    refine L_q (Q_move rfl) rfl rfl rfl ?_
    refine L_q (Q_lss rfl rfl) rfl rfl rfl ?_
    refine JL_nil ?_
    refine seqQ_normal ?_
    refine J_condF rfl ?_
    refine J_skip ?_
    refine seqQ_normal ?_
    refine J_seq ?_
    refine J_region ?_
    refine L_q (Q_move rfl) rfl rfl rfl ?_
    refine L_q (Q_move rfl) rfl rfl rfl ?_
    refine L_q (Q_nilCheck rfl) rfl rfl rfl ?_
    refine L_q (Q_fa0 rfl) rfl rfl rfl ?_
    refine L_q (Q_ia (o' := 0) 0 rfl rfl rfl (by decide) (by decide)) rfl rfl rfl ?_
    refine L_q (Q_ldA 0 rfl rfl rfl) rfl rfl rfl ?_
    refine L_o rfl rfl rfl (O_alloc fun b5 => ?_)
    refine L_s rfl rfl (O_stW 0 rfl rfl rfl rfl ?_)
    refine JL.norm ?_
    refine JL_nil ?_
    refine seqQ_normal ?_
    refine J_seq ?_
    refine J_drawH [0,2] [0, 1, 2, 3, 4, 6, 7, 8, 9] (.quiet 0 (.quiet 1 (.quiet 2 (.quiet 3 (.quiet 4 (.loud 5 (.quiet 6 (.quiet 7 (.quiet 8 (.quiet 9 .done)))))))))) Tryz.mixed (by kernel_rfl) (by kernel_rfl) (by repeat (first | exact retQ_noP | refine seqQ_noP ?_ | refine blockQ_noP ?_ | refine loopQ_noP ?_ | refine scopeQ_noP ?_ | (intro _ _ _ h; cases h.1))) ?_
    refine S_q (Ent.re [0,2] rfl) rfl (Q_fa0 rfl) rfl rfl rfl ?_
    refine S_q (Ent.re [0,2] rfl) rfl (Q_ld 0 rfl rfl rfl rfl) rfl rfl rfl ?_
    refine S_q (Ent.re [0,2] rfl) rfl (Q_slL 12 (fun w h => h.rd 1 rfl) rfl rfl rfl hl rfl) rfl rfl rfl ?_
    refine S_q (Ent.re [0,2] rfl) rfl (Q_b2s tB_enc (fun w h => (h.rd 1 rfl).sub 12 a.length hl (Nat.le_refl _)) rfl) rfl rfl rfl ?_
    refine S_q (Ent.re [0,2] rfl) rfl (Q_ldA 0 rfl rfl rfl) rfl rfl rfl ?_
    refine S_o rfl rfl rfl rfl (O_call [2] [0,1,3,4] (words_ok E S a hl) rfl rfl ?_)
    (rintro _ _ ⟨rfl, rfl⟩; refine ⟨_, fun _ => ⟨Ent.reN [1,0] rfl, Ent.refl _⟩, ?_⟩)
    refine JS.norm ?_
    refine S_q (Ent.re [1,0] rfl) rfl (Q_aiS (v' := .int .u32 (nw a 1 : Int)) 1 rfl rfl rfl (by decide) rfl rfl) rfl rfl rfl ?_
    refine S_q (Ent.re [1,0] rfl) rfl (Q_cvt rfl (IntWalk.i64_in _ (by omega))) rfl rfl rfl ?_
    refine S_q (Ent.re [1,0] rfl) rfl (Q_assign rfl) rfl rfl rfl ?_
    refine S_q (Ent.re [1,0] rfl) rfl (Q_assign rfl) rfl rfl rfl ?_
    refine S_nil ?_
    refine seqQ_normal ?_
    refine J_ret ?_
    rw [List.take_length]
    exact retQ_ret _ [cel p [S.v, T.v] 92, slc tB true S a, slc tB true T b] (.cons (RV_tmp rfl) (.cons (RV_tmp rfl) .nil)) ⟨by rw [h1, h2]; rfl, rfl⟩ (Ent.re [2, 0, 3, 4] rfl)
  · rw [e] at ht
    have h1 : loadT a b = [] := by simp only [loadT, e]; rfl
    have h2 : loadN a b = 0 := by simp only [loadN, e]; rfl
    refine J_region ?_
    refine L_q (Q_move rfl) rfl rfl rfl ?_
    refine L_o rfl rfl rfl (O_call [0,1,2] [3] ht rfl rfl ?_)
    rintro _ _ ⟨rfl, rfl⟩
    refine JL.norm ?_
    refine L_q (Q_assign rfl) rfl rfl rfl ?_
    refine JL_nil ?_
    refine seqQ_normal ?_
    refine J_seq ?_
    refine J_seq ?_
    refine J_region ?_
    refine L_q (Q_move rfl) rfl rfl rfl ?_
    refine L_q (Q_lss rfl rfl) rfl rfl rfl ?_
    refine JL_nil ?_
    refine seqQ_normal ?_
    refine J_condT rfl ?_
    refine J_seq ?_
    refine J_region ?_
    refine L_q (Q_assign rfl) rfl rfl rfl ?_
    refine L_q (Q_assign rfl) rfl rfl rfl ?_
    refine JL_nil ?_
    refine seqQ_normal ?_
    refine J_ret ?_
    refine seqQ_ret ?_
    exact retQ_ret _ [cel p [S.v, T.v] 92, slc tB true S a, slc tB true T b] (.cons (RV_tmp rfl) (.cons (RV_tmp rfl) .nil)) ⟨by rw [h1, h2]; rfl, rfl⟩ (Ent.refl _)
end Go.Proofs
/- A log and two slots, each as one chunk. -/
set_option autoImplicit false
namespace Go.Proofs
open Go.SL Go.Proofs.Bt
/-- A log. -/
def segA (p : Nat) (g : Lg) : HProp := hex fun q : SV × List Fp => star (pur (q.2.map (·.1) = g.fs)) (stars [segC p g.size g.sure q.1, slc tPf true q.1 q.2, fsC q.2])
theorem Ent.seg {p size sure : Nat} {S : SV} {ps : List Fp} {g : Lg} {L : List HProp} (h1 : size = g.size) (h2 : sure = g.sure) (h3 : ps.map (·.1) = g.fs) : Ent (segC p size sure S :: slc tPf true S ps :: fsC ps :: L) (segA p g :: L) := fun E w h => by
  subst h1 h2
  have h1 := Sat.rot (A := [segC p g.size g.sure S, slc tPf true S ps, fsC ps]) (B := L) h
  have h4 : Sat E w (stars [segC p g.size g.sure S, slc tPf true S ps, fsC ps] :: L) := Sat.rot (A := L) h1.fold
  have h5 : Sat E w (pur (ps.map (·.1) = g.fs) :: stars [segC p g.size g.sure S, slc tPf true S ps, fsC ps] :: L) := h4.lay fun _ => h3
  exact (h5.mkstar).mkex (f := fun q : SV × List Fp => star (pur (q.2.map (·.1) = g.fs)) (stars [segC p g.size g.sure q.1, slc tPf true q.1 q.2, fsC q.2])) (S, ps)
theorem Does.seg {P : Program} {E : World} {f : Nat} {args : List Value} {p : Nat} {g : Lg} {L : List HProp} {K : Value → List HProp → Prop} (h : ∀ (S : SV) (ps : List Fp), ps.map (·.1) = g.fs → Does P E f args (segC p g.size g.sure S :: slc tPf true S ps :: fsC ps :: L) K) : Does P E f args (segA p g :: L) K := fun F w hs => by
  obtain ⟨q, hq⟩ := Sat.ex (f := fun q : SV × List Fp => star (pur (q.2.map (·.1) = g.fs)) (stars [segC p g.size g.sure q.1, slc tPf true q.1 q.2, fsC q.2])) (R := L ++ [F]) hs
  obtain ⟨hm, h2⟩ := hq.star.fact
  exact h q.1 q.2 hm F w (Sat.rot (A := L ++ [F]) (h2.rot (A := [_]) (B := L ++ [F])).unfold)
/-- Two slots. -/
def snapA (p : Nat) (a b : List UInt8) : HProp := hex fun q : SV × SV => stars [cel p [q.1.v, q.2.v] 92, slc tB true q.1 a, slc tB true q.2 b]
theorem Ent.snap {p : Nat} {S T : SV} {a b : List UInt8} {L : List HProp} : Ent (cel p [S.v, T.v] 92 :: slc tB true S a :: slc tB true T b :: L) (snapA p a b :: L) := fun E w h => by
  have h1 := Sat.rot (A := [cel p [S.v, T.v] 92, slc tB true S a, slc tB true T b]) (B := L) h
  have h4 : Sat E w (stars [cel p [S.v, T.v] 92, slc tB true S a, slc tB true T b] :: L) := Sat.rot (A := L) h1.fold
  exact h4.mkex (f := fun q : SV × SV => stars [cel p [q.1.v, q.2.v] 92, slc tB true q.1 a, slc tB true q.2 b]) (S, T)
theorem Does.snap {P : Program} {E : World} {f : Nat} {args : List Value} {p : Nat} {a b : List UInt8} {L : List HProp} {K : Value → List HProp → Prop} (h : ∀ S T : SV, Does P E f args (cel p [S.v, T.v] 92 :: slc tB true S a :: slc tB true T b :: L) K) : Does P E f args (snapA p a b :: L) K := fun F w hs => by
  obtain ⟨q, hq⟩ := Sat.ex (f := fun q : SV × SV => stars [cel p [q.1.v, q.2.v] 92, slc tB true q.1 a, slc tB true q.2 b]) (R := L ++ [F]) hs
  exact h q.1 q.2 F w (Sat.rot (A := L ++ [F]) (hq.rot (A := [_]) (B := L ++ [F])).unfold)
end Go.Proofs
/- What is done to a log, as one chunk. -/
set_option autoImplicit false
namespace Go.Proofs
open Go.SL Go.Proofs.Bt
attribute [local irreducible] J JL QOp JOp seqQ blockQ loopQ retQ slc cel hex star pur stars Does RV Ent pAt scopeQ
attribute [local irreducible] nodeA nodeX treeA segA snapA
section
variable (E : World) (p c : Nat) (g : Lg)
theorem gsync_ok (hg : Good g c) (hc : c ≤ 1000000) : Does Tryz.prog E 27 [.pointer (some ⟨p, 0, none⟩)] [segA p g] fun v L => v = .tuple #[] ∧ L = [segA p (syncL g)] := by
  refine Does.seg fun S ps hps => ?_
  have hl : ps.length ≤ 16 := by have := congrArg List.length hps; rw [List.length_map] at this; rw [this]; exact hg.few
  have hm : ∀ r ∈ ps, r.1 ∈ g.fs := fun r hr => by rw [← hps]; exact List.mem_map_of_mem hr
  refine Does.post (sync_ok E p g.size g.sure S ps hl (by rw [hps]; exact Nat.le_trans hg.next (by omega)) (fun r hr => ⟨(hg.file _ (hm r hr)).1, (hg.file _ (hm r hr)).2.1⟩)) (fun F => Ent.refl _) ?_
  rintro v L ⟨hv, rfl⟩
  refine ⟨_, ⟨hv, rfl⟩, fun F => Ent.seg (g := syncL g) rfl ?_ ?_⟩
  · show _ = (if g.fs = [] then g.sure else nextOf g.fs)
    rw [hps]
    by_cases h0 : ps = []
    · rw [if_pos h0, if_pos (by rw [← hps, h0]; rfl)]
    · rw [if_neg h0, if_neg (by rw [← hps]; simpa using h0)]
  · rw [onP_fst, hps]; rfl
theorem gnext_ok (hg : Good g c) (hc : c ≤ 1000000) : Does Tryz.prog E 23 [.pointer (some ⟨p, 0, none⟩)] [segA p g] fun v L => v = .int .i64 (nextOf g.fs : Int) ∧ L = [segA p g] := by
  refine Does.seg fun S ps hps => ?_
  have hl : ps.length ≤ 16 := by have := congrArg List.length hps; rw [List.length_map] at this; rw [this]; exact hg.few
  refine Does.post (snext_ok E p g.size g.sure S ps hl (by rw [hps]; exact Nat.le_trans hg.next (by omega))) (fun F => Ent.refl _) ?_
  rintro v L ⟨hv, rfl⟩
  exact ⟨_, ⟨by rw [hv, hps], rfl⟩, fun F => Ent.seg rfl rfl hps⟩
theorem gfirst_ok (hg : Good g c) : Does Tryz.prog E 38 [.pointer (some ⟨p, 0, none⟩)] [segA p g] fun v L => v = .int .i64 (firstOf g.fs : Int) ∧ L = [segA p g] := by
  refine Does.seg fun S ps hps => ?_
  have hl : ps.length ≤ 16 := by have := congrArg List.length hps; rw [List.length_map] at this; rw [this]; exact hg.few
  refine Does.post (sfirst_ok E p g.size g.sure S ps hl) (fun F => Ent.refl _) ?_
  rintro v L ⟨hv, rfl⟩
  exact ⟨_, ⟨by rw [hv, hps], rfl⟩, fun F => Ent.seg rfl rfl hps⟩
theorem gdrop_ok (hg : Good g c) (hc : c ≤ 1000000) (seq : Int) : Does Tryz.prog E 34 [.pointer (some ⟨p, 0, none⟩), .int .i64 seq] [segA p g] fun v L => v = .int .i64 ((dropL g seq).2 : Int) ∧ L = [segA p (dropL g seq).1] := by
  refine Does.seg fun S ps hps => ?_
  have hl : ps.length ≤ 16 := by have := congrArg List.length hps; rw [List.length_map] at this; rw [this]; exact hg.few
  have hm : ∀ r ∈ ps, r.1 ∈ g.fs := fun r hr => by rw [← hps]; exact List.mem_map_of_mem hr
  refine Does.post (sdrop_ok E p g.size g.sure S ps seq hl (fun r hr => Nat.le_trans (hg.file _ (hm r hr)).2.2.2 (by omega))) (fun F => Ent.refl _) ?_
  rintro v L ⟨S', hv, rfl⟩
  refine ⟨_, ⟨by rw [hv, hps]; rfl, rfl⟩, fun F => Ent.seg (g := (dropL g seq).1) rfl rfl ?_⟩
  show (ps.drop _).map _ = g.fs.drop (dropN g.fs seq)
  rw [List.map_drop, hps]
end
end Go.Proofs
/- What is done to a log, as one chunk: the rest. -/
set_option autoImplicit false
namespace Go.Proofs
open Go.SL Go.Proofs.Bt
theorem Does.frame {P : Program} {E : World} {f : Nat} {args : List Value} {pre R : List HProp} {K : Value → List HProp → Prop} (h : Does P E f args pre K) : Does P E f args (pre ++ R) (fun v L => ∃ L', K v L' ∧ L = L' ++ R) := fun F w hs => by
  rw [List.append_assoc] at hs
  refine (h (stars (R ++ [F])) w hs.fold).mono ?_
  rintro e w' ⟨v, L', he, hk, hs'⟩
  refine ⟨v, L' ++ R, he, ⟨L', hk, rfl⟩, ?_⟩
  rw [List.append_assoc]
  exact hs'.unfold
attribute [local irreducible] J JL QOp JOp seqQ blockQ loopQ retQ slc cel hex star pur stars Does RV Ent pAt scopeQ
attribute [local irreducible] nodeA nodeX treeA segA snapA
section
variable (E : World) (p c : Nat) (g : Lg)
theorem gcrash_ok (hg : Good g c) (hc : c ≤ 1000000) (keep : Nat) (hk : keep < 2 ^ 64) : Does Tryz.prog E 36 [.pointer (some ⟨p, 0, none⟩), .int .u64 (keep : Int)] [segA p g] fun v L => v = .tuple #[] ∧ L = [segA p (crashL g keep)] := by
  refine Does.seg fun S ps hps => ?_
  have hl : ps.length ≤ 16 := by have := congrArg List.length hps; rw [List.length_map] at this; rw [this]; exact hg.few
  have hm : ∀ r ∈ ps, r.1 ∈ g.fs := fun r hr => by rw [← hps]; exact List.mem_map_of_mem hr
  have hn := (hg.crash (keep := keep)).next
  refine Does.post (crash_ok E p g.size g.sure keep S ps hk hl (by rw [hps]; exact Nat.le_trans hn (by omega)) (fun r hr => ⟨(hg.file _ (hm r hr)).1, (hg.file _ (hm r hr)).2.1⟩)) (fun F => Ent.refl _) ?_
  rintro v L ⟨hv, rfl⟩
  refine ⟨_, ⟨hv, rfl⟩, fun F => Ent.seg (g := crashL g keep) rfl ?_ ?_⟩
  · show _ = (if g.fs = [] then g.sure else nextOf (onLast g.fs fun f => crashF f keep))
    rw [hps]
    by_cases h0 : ps = []
    · rw [if_pos h0, if_pos (by rw [← hps, h0]; rfl)]
    · rw [if_neg h0, if_neg (by rw [← hps]; simpa using h0)]
  · rw [onP_fst, hps]; rfl
theorem gsure_ok : Does Tryz.prog E 35 [.pointer (some ⟨p, 0, none⟩)] [segA p g] fun v L => v = .int .i64 (g.sure : Int) ∧ L = [segA p g] := by
  refine Does.seg fun S ps hps => ?_
  refine Does.post (Does.frame (R := [slc tPf true S ps, fsC ps]) (ssure_ok E p g.size g.sure S)) (fun F => Ent.refl _) ?_
  rintro v _ ⟨_, ⟨hv, rfl⟩, rfl⟩
  exact ⟨_, ⟨hv, rfl⟩, fun F => Ent.seg rfl rfl hps⟩
theorem gget_ok (hg : Good g c) (hc : c ≤ 1000000) (i : Int) : Does Tryz.prog E 39 [.pointer (some ⟨p, 0, none⟩), .int .i64 i] [segA p g] fun v L => v = getV g.fs i ∧ L = [segA p g] := by
  refine Does.seg fun S ps hps => ?_
  have hl : ps.length ≤ 16 := by have := congrArg List.length hps; rw [List.length_map] at this; rw [this]; exact hg.few
  have hm : ∀ r ∈ ps, r.1 ∈ g.fs := fun r hr => by rw [← hps]; exact List.mem_map_of_mem hr
  refine Does.post (sget_ok E p g.size g.sure S ps i hl (fun r hr => ⟨(hg.file _ (hm r hr)).1, (hg.file _ (hm r hr)).2.2.1, Nat.le_trans (hg.file _ (hm r hr)).2.2.2 (by omega)⟩)) (fun F => Ent.refl _) ?_
  rintro v L ⟨hv, rfl⟩
  exact ⟨_, ⟨by rw [hv, hps], rfl⟩, fun F => Ent.seg rfl rfl hps⟩
theorem gappend_ok (hg : Good g c) (hc : c ≤ 1000000) (t : List UInt8) : Does Tryz.prog E 43 [.pointer (some ⟨p, 0, none⟩), str t] [segA p g] fun v L => v = .tuple #[.int .i64 ((appL g t).2.1 : Int), .int .i64 (appL g t).2.2] ∧ L = [segA p (appL g t).1] := by
  refine Does.seg fun S ps hps => ?_
  have hl : ps.length ≤ 16 := by have := congrArg List.length hps; rw [List.length_map] at this; rw [this]; exact hg.few
  have hm : ∀ r ∈ ps, r.1 ∈ g.fs := fun r hr => by rw [← hps]; exact List.mem_map_of_mem hr
  have hga : (⟨g.size, g.sure, ps.map (·.1)⟩ : Lg) = g := by rw [hps]
  have h := sappend_ok E p g.size g.sure S ps t hg.size.1 hg.size.2 hl (by rw [hps]; exact Nat.le_trans hg.next (by omega)) (fun r hr => ⟨(hg.file _ (hm r hr)).1, (hg.file _ (hm r hr)).2.1⟩)
  rw [hga] at h
  refine Does.post h (fun F => Ent.refl _) ?_
  rintro v L ⟨S', ps', hv, hfs, rfl⟩
  exact ⟨_, ⟨hv, rfl⟩, fun F => Ent.seg (g := (appL g t).1) (appL_size g t).symm rfl hfs⟩
end
end Go.Proofs
/- The document's numbers, sums and texts, walked. -/
set_option autoImplicit false
namespace Go.Proofs
open Go.SL
attribute [local irreducible] J JL QOp JOp seqQ blockQ loopQ retQ slc cel hex star pur stars Does RV Ent pAt
end Go.Proofs
/- The document's reading of texts. -/
set_option autoImplicit false
namespace Go.Proofs
open Go.SL
attribute [local irreducible] J JL QOp JOp seqQ blockQ loopQ retQ slc cel hex star pur stars Does RV Ent pAt
theorem be4_at (s : List UInt8) (p : Nat) (h : p + 3 < s.length) : be ((s.drop p).take 4) = ((s[p].toNat * 256 + s[p + 1].toNat) * 256 + s[p + 2].toNat) * 256 + s[p + 3].toNat := by
  rw [be4 (s.drop p) (by rw [List.length_drop]; omega)]
  simp only [List.getElem_drop, Nat.add_zero]
end Go.Proofs
/- Pairs packed, walked. -/
set_option autoImplicit false
namespace Go.Proofs
open Go.SL
attribute [local irreducible] J JL QOp JOp seqQ blockQ loopQ retQ slc cel hex star pur stars Does RV Ent pAt
abbrev Pr := List UInt8 × List UInt8
def tP : Ty Pr := ⟨77, 2, fun p => [str p.1, str p.2], fun _ => rfl, by decide, fun a v hv => by simp at hv; rcases hv with rfl | rfl <;> rfl⟩
instance : TyI Tryz.prog tP.e 2 (.agg #[.string ⟨#[]⟩, .string ⟨#[]⟩]) 32 := inferInstanceAs (TyI Tryz.prog 77 2 (.agg #[.string ⟨#[]⟩, .string ⟨#[]⟩]) 32)
instance : TyU Tryz.prog 36 (.slice tP.e) := inferInstanceAs (TyU Tryz.prog 36 (.slice 77))
def flat (l : List Pr) : List (List UInt8) := l.flatMap fun p => [p.1, p.2]
theorem flat_succ (l : List Pr) (k : Nat) (h : k < l.length) : flat (l.take (k + 1)) = flat (l.take k) ++ [l[k].1, l[k].2] := by
  unfold flat
  rw [List.take_succ_eq_append_getElem h, List.flatMap_append]
  simp
theorem flat_length (l : List Pr) : (flat l).length = 2 * l.length := by
  induction l with
  | nil => rfl
  | cons p l ih => simp only [flat, List.flatMap_cons, List.length_append, List.length_cons, List.length_nil] at *; omega
theorem pack_ok (E : World) (full : Bool) (S : SV) (l : List Pr) (hl : l.length ≤ 100000) (hb : (texts (flat l)).length ≤ 100000000) : Does Tryz.prog E 31 [S.v] [slc tP full S l] fun v L => v = str (texts (flat l)) ∧ L = [slc tP full S l] := by
  refine Does.of Tryz.func31 rfl Tryz.ntmps31 rfl rfl fun F => ?_
  refine J.norm ?_
  refine J_seq ?_
  refine J_region ?_
  refine L_q (Q_assign rfl) rfl rfl rfl ?_
  refine JL_nil ?_
  refine seqQ_normal ?_
  refine J_seq ?_
  refine J_region ?_
  refine L_q (Q_assign rfl) rfl rfl rfl ?_
  refine JL_nil ?_
  refine seqQ_normal ?_
  refine J_seq ?_
  refine J_seq ?_
  refine J_region ?_
  refine L_q (Q_move rfl) rfl rfl rfl ?_
  refine L_q (Q_lenAt 0 rfl rfl) rfl rfl rfl ?_
  refine L_q (Q_move rfl) rfl rfl rfl ?_
  refine JL_nil ?_
  refine seqQ_normal ?_
  refine J_block ?_
  refine J.ent (Ent.mk fun _ _ h => (h.lay_nil tS true : Sat _ _ (slc tS true SV.nil [] :: _))) ?_
  refine J_loop (fun i : Nat × SV => i.1 ≤ l.length) (fun i => [(3, i.2.v), (6, S.v), (7, .int .i64 (l.length : Int)), (8, .int .i64 (i.1 : Int))])
    (fun i => [slc tS true i.2 (flat (l.take i.1)), slc tP full S l, F]) (fun i => l.length - i.1) (0, SV.nil) (by simp) ⟨rfl, rfl, rfl, rfl, trivial⟩ (Ent.refl _) ?_
  rintro ⟨k, B⟩ hk
  dsimp only at hk ⊢
  refine J_seq ?_
  refine J_region ?_
  refine L_q (Q_lss rfl rfl) rfl rfl rfl ?_
  refine JL_nil ?_
  refine seqQ_normal ?_
  refine J_seq ?_
  refine J_condD rfl (fun h => ?_) (fun h => ?_)
  · have hlt : k < l.length := by omega
    have h1 := flat_succ l k hlt
    have h2 : (flat (l.take k)).length = 2 * k := by rw [flat_length, List.length_take]; omega
    refine J_skip ?_
    refine seqQ_normal ?_
    refine J_seq ?_
    refine J_block ?_
    refine J_seq ?_
    refine J_region ?_
    refine L_q (Q_ixAt 1 k rfl rfl rfl rfl hlt rfl) rfl rfl rfl ?_
    refine L_q (Q_ldEAAt 1 k 0 (vs := [str l[k].1, str l[k].2]) rfl rfl rfl rfl hlt (by decide) rfl) rfl rfl rfl ?_
    refine L_o rfl rfl rfl (O_alloc fun b5 => ?_)
    refine L_s rfl rfl (O_stW 0 rfl rfl rfl rfl ?_)
    refine JL.norm ?_
    refine JL_nil ?_
    refine seqQ_normal ?_
    refine J_region ?_
    refine L_q (Q_move rfl) rfl rfl rfl ?_
    refine L_q (Q_fa0 rfl) rfl rfl rfl ?_
    refine L_q (Q_ld 0 rfl rfl rfl rfl) rfl rfl rfl ?_
    refine L_q (Q_fa0 rfl) rfl rfl rfl ?_
    refine L_q (Q_ld 0 rfl rfl rfl rfl) rfl rfl rfl ?_
    refine L_o rfl rfl rfl (O_litP (τ := tS) (m := 2) (sz := 1) [l[k].1, l[k].2] rfl rfl rfl rfl rfl rfl (by decide) (fun S1 => ?_))
    refine JL.norm ?_
    refine L_o rfl rfl rfl (O_app (τ := tS) 2 rfl (fun w h => h.rd 0 rfl) rfl rfl rfl rfl (by simp; omega) (by decide) (fun S2 => ?_))
    refine JL.norm ?_
    refine L_q (Q_assign rfl) rfl rfl rfl ?_
    refine JL_nil ?_
    refine blockQ_normal ?_
    refine seqQ_normal ?_
    refine J_region ?_
    refine L_q (Q_add rfl rfl (by first | exact IntWalk.i64_in _ (by omega) | exact IntWalk.u8_in _ (by omega) | exact IntWalk.u32_in _ (by omega) | exact IntWalk.u64_in _ (by omega) | rfl)) rfl rfl rfl ?_
    refine L_q (Q_move rfl) rfl rfl rfl ?_
    refine JL_nil ?_
    exact loopQ_normal (k + 1, S2) hlt (by simp only; omega) ⟨rfl, rfl, rfl, rfl, trivial⟩ (by simp only; rw [h1]; exact Ent.re [2, 3, 4] rfl)
  · obtain rfl : k = l.length := by omega
    rw [List.take_length]
    refine J_exit ?_
    refine seqQ_exit ?_
    refine loopQ_exit ?_
    refine blockQ_hit ?_
    refine seqQ_normal ?_
    refine J_seq ?_
    refine J_region ?_
    refine L_q (Q_move rfl) rfl rfl rfl ?_
    refine L_o rfl rfl rfl (O_call [0] [1,2] (wtexts_ok E true B (flat l) (by rw [flat_length]; omega) hb) rfl rfl ?_)
    rintro _ _ ⟨rfl, rfl⟩
    refine JL.norm ?_
    refine L_q (Q_assign rfl) rfl rfl rfl ?_
    refine JL_nil ?_
    refine seqQ_normal ?_
    refine J_ret ?_
    exact retQ_ret _ [slc tP full S l] (.cons (RV_tmp rfl) .nil) ⟨rfl, rfl⟩ (Ent.re [1, 2] rfl)
end Go.Proofs
/- What is done to the slots, as one chunk; a number in four bytes; pairs as the slots have them. -/
set_option autoImplicit false
namespace Go.Proofs
open Go.SL Go.Proofs.Bt
def toPr (l : List Kv) : List Pr := l.map fun x => (x.key, x.val)
theorem flat_toPr (l : List Kv) : tP.flat (toPr l) = tKv.flat l := by
  induction l with
  | nil => rfl
  | cons x l ih =>
    have h1 : toPr (x :: l) = (x.key, x.val) :: toPr l := rfl
    rw [h1]
    simp only [Ty.flat, List.flatMap_cons] at ih ⊢
    rw [ih]; rfl
theorem slc_toPr (full : Bool) (S : SV) (l : List Kv) : slc tKv full S l = slc tP full S (toPr l) := by
  funext E h
  unfold slc
  rw [flat_toPr, show (toPr l).length = l.length from List.length_map ..]
  rfl
attribute [local irreducible] J JL QOp JOp seqQ blockQ loopQ retQ slc cel hex star pur stars Does RV Ent pAt scopeQ
attribute [local irreducible] nodeA nodeX treeA segA snapA
theorem swrite_ok (E : World) (p : Nat) (a b body : List UInt8) (upto : Int) (ha : a.length ≤ 100000) (hb : b.length ≤ 100000) :
    Does Tryz.prog E 29 [.pointer (some ⟨p, 0, none⟩), str body, .int .i64 upto] [snapA p a b] fun v L => v = .int .i64 (doW a b body upto).2.2 ∧ L = [snapA p (doW a b body upto).1 (doW a b body upto).2.1] := by
  refine Does.snap fun S T => ?_
  refine Does.post (write_ok E p S T a b body upto ha hb) (fun F => Ent.refl _) ?_
  rintro v L ⟨S', T', hv, rfl⟩
  exact ⟨_, ⟨hv, rfl⟩, fun F => Ent.snap⟩
theorem sload_ok (E : World) (p : Nat) (a b : List UInt8) (ha : a.length ≤ 100000) (hb : b.length ≤ 100000) :
    Does Tryz.prog E 28 [.pointer (some ⟨p, 0, none⟩)] [snapA p a b] fun v L => v = .tuple #[str (loadT a b), .int .i64 (loadN a b : Int)] ∧ L = [snapA p a b] := by
  refine Does.snap fun S T => ?_
  refine Does.post (load_ok E p S T a b ha hb) (fun F => Ent.refl _) ?_
  rintro v L ⟨hv, rfl⟩
  exact ⟨_, ⟨hv, rfl⟩, fun F => Ent.snap⟩
end Go.Proofs
/- Pairs packed by the document, walked. -/
set_option autoImplicit false
namespace Go.Proofs
open Go.SL
attribute [local irreducible] J JL QOp JOp seqQ blockQ loopQ retQ slc cel hex star pur stars Does RV Ent pAt
end Go.Proofs
/- Pairs unpacked, in plain Lean. -/
set_option autoImplicit false
namespace Go.Proofs
open Go.SL
def badK (prev : Option (List UInt8)) (k : List UInt8) : Bool := match prev with
  | none => false
  | some q => !(Op.bytesLess q k)
def unp : Option (List UInt8) → List (List UInt8) → Option (List Pr)
  | _, [] => some []
  | _, [_] => none
  | prev, k :: v :: r => if badK prev k = true then none else (unp (some k) r).map ((k, v) :: ·)
def unpT (s : List UInt8) : Option (List Pr) := (readT s).bind (unp none)
def unpL (s : List UInt8) : List Pr := (unpT s).getD []
def unpE (s : List UInt8) : Int := if (unpT s).isNone then 3 else 0
theorem unp_odd (n : Nat) : ∀ (p : Option (List UInt8)) (l : List (List UInt8)), l.length ≤ n → l.length % 2 = 1 → unp p l = none := by
  induction n with
  | zero => intro p l h1 h2; omega
  | succ n ih =>
    intro p l h1 h2
    match l, h1, h2 with
    | [_], _, _ => rfl
    | k :: v :: r, h1, h2 =>
      simp only [List.length_cons] at h1 h2
      simp only [unp]
      rw [ih _ r (by omega) (by omega)]
      simp
theorem unpT_none {s : List UInt8} (h : readT s = none) : unpT s = none := by unfold unpT; rw [h]; rfl
theorem unpT_some {s : List UInt8} {l : List (List UInt8)} (h : readT s = some l) : unpT s = unp none l := by unfold unpT; rw [h]; rfl
theorem readT_len (n : Nat) : ∀ (s : List UInt8) (l : List (List UInt8)), s.length ≤ n → readT s = some l → l.length ≤ s.length := by
  induction n with
  | zero => intro s l h1 h2; obtain rfl : s = [] := List.eq_nil_of_length_eq_zero (by omega); rw [readT_nil] at h2; cases h2; simp
  | succ n ih =>
    intro s l h1 h2
    by_cases hs : s = []
    · subst hs; rw [readT_nil] at h2; cases h2; simp
    · cases hx : nextT s with
      | none => rw [readT_none hs hx] at h2; cases h2
      | some tr =>
        obtain ⟨t, r⟩ := tr
        rw [readT_some hs hx] at h2
        have := nextT_lt hx
        cases hr : readT r with
        | none => rw [hr] at h2; cases h2
        | some l' =>
          rw [hr] at h2
          cases h2
          have := ih r l' (by omega) hr
          simp only [List.length_cons]; omega
theorem readL_len (s : List UInt8) : (readL s).length ≤ s.length := by
  unfold readL
  cases h : readT s with
  | none => simp
  | some l => exact readT_len _ s l (Nat.le_refl _) h
def lastK (out : List Pr) : Option (List UInt8) := out.getLast?.map (·.1)
theorem lastK_snoc (out : List Pr) (p : Pr) : lastK (out ++ [p]) = some p.1 := by simp [lastK]
theorem lastK_at (out : List Pr) (j : Nat) (h : out.length = j + 1) : lastK out = some (out[j]'(by omega)).1 := by
  unfold lastK
  rw [List.getLast?_eq_getElem?, show out.length - 1 = j by omega, List.getElem?_eq_getElem (by omega)]; rfl
theorem leq_eq : ∀ (a b : List UInt8), (Op.bytesLess b a || b == a) = !(Op.bytesLess a b)
  | [], [] => rfl
  | [], _ :: _ => rfl
  | _ :: _, [] => rfl
  | x :: a, y :: b => by
    have ih := leq_eq a b
    simp only [Op.bytesLess, List.cons_beq_cons]
    by_cases h : x = y
    · subst h
      have h1 : ¬ x < x := UInt8.lt_irrefl x
      simp [h1, ih]
    · have h' : ¬ y = x := fun e => h e.symm
      by_cases h2 : x < y
      · have h3 : ¬ y < x := UInt8.lt_asymm h2
        simp [h, h', h2, h3]
      · have h3 : y < x := UInt8.lt_of_le_of_ne (UInt8.not_lt.1 h2) h'
        simp [h, h', h2, h3]
end Go.Proofs
