/- Part 20 of the texts below the row: Snap4, Snap5, Kv3, Kv4, Kv5, Ch4, Fo1, Fo2. -/
import Derived.WalkSpells
import Derived.Test.YtgifbeecmidciaaGreatM19
/- A write into the slots. -/
set_option autoImplicit false
namespace Go.Proofs
open Go.SL
attribute [local irreducible] J JL QOp JOp seqQ blockQ loopQ retQ slc cel hex star pur stars Does RV Ent pAt
theorem write_ok (E : World) (p : Nat) (S T : SV) (a b body : List UInt8) (upto : Int) (ha : a.length ≤ 100000) (hb : b.length ≤ 100000) :
 Does Tryz.prog E 45 [.pointer (some ⟨p, 0, none⟩), str body, .int .i64 upto] [cel p [S.v, T.v] 143, slc tB true S a, slc tB true T b] fun v L => ∃ S' T' : SV, v = .int .i64 (doW a b body upto).2.2 ∧ L = [cel p [S'.v, T'.v] 143, slc tB true S' (doW a b body upto).1, slc tB true T' (doW a b body upto).2.1] := by
 have ht := told_ok E p S T a b ha hb
 have htc := told_cases a b
 refine Does.of Tryz.func45 rfl Tryz.ntmps45 rfl rfl fun F => ?_
 refine J.norm ?_
 refine Sr ?_
 refine Lq (Q_assign rfl) ?_
 refine Ln ?_
 refine J_seq ?_
 refine Sr ?_
 refine Lq (Q_move rfl) ?_
 refine Lq (Q_peql rfl rfl) ?_
 refine Ln ?_
 refine J_condF rfl ?_
 refine J_skip ?_
 refine seqQ_normal ?_
 refine J_seq ?_
 refine Sr ?_
 refine Lq (Q_move rfl) ?_
 refine Lq (Q_slen rfl) ?_
 refine Lq (Q_gtr rfl rfl) ?_
 refine Ln ?_
 refine J_condD rfl (fun h0 => ?_) (fun h0 => ?_)
 ·have hdo : doW a b body upto = (a, b, 2) := by unfold doW; rw [if_pos (by omega)]
  refine Sr ?_
  refine Lq (Q_assign rfl) ?_
  refine Ln ?_
  refine J_ret ?_
  refine seqQ_ret ?_
  exact retQ_ret _ [cel p [S.v, T.v] 143, slc tB true S a, slc tB true T b] (.cons (RV_tmp rfl) .nil) ⟨S, T, by simp only [hdo]; first | done | rfl, by simp only [hdo]⟩ (Ent.refl _)
 ·have hd0 : doW a b body upto = if told a b = 0 then (a, wrote a b body upto, 0) else (wrote a b body upto, b, 0) := by unfold doW; rw [if_neg (by omega)]
  rcases htc with ⟨e, hr⟩ | ⟨e, hr⟩ | e
  ·rw [e] at ht
   have hl := right_long hr
   have hdo : doW a b body upto = (wrote a b body upto, b, 0) := by rw [hd0, if_neg (by omega)]
   refine J_skip ?_
   refine seqQ_normal ?_
   refine Sr ?_
   refine Lq (Q_move rfl) ?_
   refine L_o rfl rfl rfl (O_call [0,1,2] [3] ht rfl rfl ?_)
   rintro _ _ ⟨rfl, rfl⟩
   refine JL.norm ?_
   refine Lq (Q_assign rfl) ?_
   refine Lq (Q_assign rfl) ?_
   refine Ln ?_
   refine J_seq ?_
   refine Sr ?_
   refine Lq (Q_move rfl) ?_
   refine Lq (Q_geq rfl rfl) ?_
   refine Ln ?_
   refine J_condT rfl ?_
   refine J_region ?_
   refine Lq (Q_move rfl) ?_
   refine Lq (Q_move rfl) ?_
   refine Lq (Q_nilCheck rfl) ?_
   refine Lq (Q_fa0 rfl) ?_
   refine Lq (Q_ia (o' := 1) 1 rfl rfl rfl (by decide) (by decide)) ?_
   refine Lq (Q_ldA 0 rfl rfl rfl) ?_
   refine L_o rfl rfl rfl (O_call [2] [0,1,3] (words_ok E T b hl) rfl rfl ?_)
   rintro _ _ ⟨rfl, rfl⟩
   refine JL.norm ?_
   refine Lq (Q_aiS (v' := .int .u32 (nw b 1 : Int)) 1 rfl rfl rfl (by decide) rfl rfl) ?_
   refine Lq (Q_assign rfl) ?_
   refine Ln ?_
   refine J_seq ?_
   obtain ⟨g, hgv⟩ : ∃ g : Nat, g = nw b 1 := ⟨_, rfl⟩
   have hgg : (if told a b = 1 then nw b 1 else if told a b = 0 then nw a 1 else 0) = g := by rw [if_pos e, hgv]
   rw [← hgv]
   refine J_region ?_
   refine Lq (Q_move rfl) ?_
   refine Lq (Q_addN g 1 rfl rfl rfl rfl) ?_
   refine L_o rfl rfl rfl (O_call [] [0,1,2,3] (four_ok E ((g + 1) % 2 ^ 32)) rfl rfl ?_)
   rintro _ _ ⟨S1, rfl, rfl⟩
   refine JL.norm ?_
   refine Lq (Q_move rfl) ?_
   refine Lq (Q_slen rfl) ?_
   refine Lq (Q_cvtN body.length rfl rfl) ?_
   refine L_o rfl rfl rfl (O_call [] [0,1,2,3,4] (four_ok E (body.length % 2 ^ 32)) rfl rfl ?_)
   rintro _ _ ⟨S2, rfl, rfl⟩
   refine JL.norm ?_
   refine L_o rfl rfl rfl (O_app (τ := tB) 1 rfl (fun w h => h.rd 0 rfl) rfl rfl rfl rfl (by simp [four]) (by decide) (fun S3 => ?_))
   refine JL.norm ?_
   refine Lq (Q_assign rfl) ?_
   refine Ln ?_
   refine Sr ?_
   refine Lq (Q_move rfl) ?_
   refine Lq (Q_move rfl) ?_
   refine L_o rfl rfl rfl (O_appS tB_enc 1 rfl rfl rfl rfl rfl (by simp [four]; omega) (by decide) (fun S4 => ?_))
   refine JL.norm ?_
   refine Lq (Q_assign rfl) ?_
   refine Ln ?_
   refine Sr ?_
   refine Lq (Q_move rfl) ?_
   refine Lq (Q_b2s tB_enc (fun w h => h.rd 1 rfl) rfl) ?_
   refine L_o rfl rfl rfl (O_call [] [0,1,2,3,4,5] (sum_ok E _ (by simp [four]; omega)) rfl rfl ?_)
   rintro _ _ ⟨rfl, rfl⟩
   refine JL.norm ?_
   refine L_o rfl rfl rfl (O_call [] [0,1,2,3,4,5] (four_ok E _) rfl rfl ?_)
   rintro _ _ ⟨S5, rfl, rfl⟩
   refine JL.norm ?_
   refine Lq (Q_move rfl) ?_
   refine L_o rfl rfl rfl (O_app (τ := tB) 0 rfl (fun w h => h.rd 2 rfl) rfl rfl rfl rfl (by simp [four]; omega) (by decide) (fun S6 => ?_))
   refine JL.norm ?_
   refine Lq (Q_assign rfl) ?_
   refine Ln ?_
   refine J_seq ?_
   refine J_seq ?_
   have hwr : wrote a b body upto = if 0 ≤ upto ∧ upto < ((four (crc (four ((g + 1) % 2 ^ 32) ++ four (body.length % 2 ^ 32) ++ body)) ++ (four ((g + 1) % 2 ^ 32) ++ four (body.length % 2 ^ 32) ++ body)).length : Int) then (four (crc (four ((g + 1) % 2 ^ 32) ++ four (body.length % 2 ^ 32) ++ body)) ++ (four ((g + 1) % 2 ^ 32) ++ four (body.length % 2 ^ 32) ++ body)).take upto.toNat else four (crc (four ((g + 1) % 2 ^ 32) ++ four (body.length % 2 ^ 32) ++ body)) ++ (four ((g + 1) % 2 ^ 32) ++ four (body.length % 2 ^ 32) ++ body) := by simp only [wrote, hgg]
   generalize four (crc (four ((g + 1) % 2 ^ 32) ++ four (body.length % 2 ^ 32) ++ body)) ++ (four ((g + 1) % 2 ^ 32) ++ four (body.length % 2 ^ 32) ++ body) = u at hwr ⊢
   by_cases hu0 : 0 ≤ upto
   ·by_cases hu1 : upto < (u.length : Int)
    ·obtain ⟨m, rfl⟩ : ∃ m : Nat, upto = (m : Int) := ⟨upto.toNat, by omega⟩
     have hm : m ≤ u.length := by omega
     rw [if_pos ⟨hu0, hu1⟩, Int.toNat_natCast] at hwr
     refine J_region ?_
     refine Lq (Q_move rfl) ?_
     refine Lq ((Q_geq rfl rfl).as (v' := .bool true) (congrArg Value.bool (decide_eq_true hu0))) ?_
     refine Lq (Q_move rfl) ?_
     refine Lq (Q_move rfl) ?_
     refine Lq (Q_move rfl) ?_
     refine Lq (Q_lenAt 0 rfl rfl) ?_
     refine Lq ((Q_lss rfl rfl).as (v' := .bool true) (congrArg Value.bool (decide_eq_true hu1))) ?_
     refine Lq (Q_pickT rfl rfl) ?_
     refine Ln ?_
     refine J_condT rfl ?_
     refine J_region ?_
     refine Lq (Q_move rfl) ?_
     refine Lq (Q_move rfl) ?_
     refine Lq (Q_slH m (fun w h => h.rd 0 rfl) rfl rfl rfl hm rfl) ?_
     refine Lq (Q_assign rfl) ?_
     refine Ln ?_
     refine J_seq ?_
     refine Sr ?_
     refine Lq (Q_move rfl) ?_
     refine Lq (Q_eql rfl rfl) ?_
     refine Ln ?_
     refine J_condF rfl ?_
     refine J_region ?_
     refine Lq (Q_move rfl) ?_
     refine Lq (Q_move rfl) ?_
     refine Lq (Q_build rfl) ?_
     refine Lq (Q_nilCheck rfl) ?_
     refine Lq (Q_fa0 rfl) ?_
     refine Lq (Q_ia (o' := 0) 0 rfl rfl rfl (by decide) (by decide)) ?_
     refine L_s rfl rfl (O_st (sz := 1) (cs' := [(SV.sub S6 tB.sz 0 m).v, T.v]) 4 rfl rfl rfl rfl rfl (by simp [Value.oneCell', Value.cells]) (by simp) rfl ?_)
     refine JL.norm ?_
     refine Ln ?_
     refine Sr ?_
     refine Lq (Q_assign rfl) ?_
     refine Ln ?_
     refine J_ret ?_
     refine retQ_ret _ [cel p [(SV.sub S6 tB.sz 0 m).v, T.v] 143, slc tB true (SV.sub S6 tB.sz 0 m) ((u.take m).drop 0), slc tB true T b] (.cons (RV_tmp rfl) .nil) ⟨(SV.sub S6 tB.sz 0 m), T, by simp only [hdo]; first | done | rfl, by simp only [hdo, hwr]; first | done | rfl⟩ ?_
     exact (Ent.sub 0 0 m rfl (Nat.zero_le _) hm).trans (Ent.re [4,0,3,6] rfl)
    ·rw [if_neg (fun h => hu1 h.2)] at hwr
     refine J_region ?_
     refine Lq (Q_move rfl) ?_
     refine Lq ((Q_geq rfl rfl).as (v' := .bool true) (congrArg Value.bool (decide_eq_true hu0))) ?_
     refine Lq (Q_move rfl) ?_
     refine Lq (Q_move rfl) ?_
     refine Lq (Q_move rfl) ?_
     refine Lq (Q_lenAt 0 rfl rfl) ?_
     refine Lq ((Q_lss rfl rfl).as (v' := .bool false) (congrArg Value.bool (decide_eq_false hu1))) ?_
     refine Lq (Q_pickT rfl rfl) ?_
     refine Ln ?_
     refine J_condF rfl ?_
     refine J_skip ?_
     refine seqQ_normal ?_
     refine J_seq ?_
     refine Sr ?_
     refine Lq (Q_move rfl) ?_
     refine Lq (Q_eql rfl rfl) ?_
     refine Ln ?_
     refine J_condF rfl ?_
     refine J_region ?_
     refine Lq (Q_move rfl) ?_
     refine Lq (Q_move rfl) ?_
     refine Lq (Q_build rfl) ?_
     refine Lq (Q_nilCheck rfl) ?_
     refine Lq (Q_fa0 rfl) ?_
     refine Lq (Q_ia (o' := 0) 0 rfl rfl rfl (by decide) (by decide)) ?_
     refine L_s rfl rfl (O_st (sz := 1) (cs' := [S6.v, T.v]) 4 rfl rfl rfl rfl rfl (by simp [Value.oneCell', Value.cells]) (by simp) rfl ?_)
     refine JL.norm ?_
     refine Ln ?_
     refine Sr ?_
     refine Lq (Q_assign rfl) ?_
     refine Ln ?_
     refine J_ret ?_
     exact retQ_ret _ [cel p [S6.v, T.v] 143, slc tB true S6 u, slc tB true T b] (.cons (RV_tmp rfl) .nil) ⟨S6, T, by simp only [hdo]; first | done | rfl, by simp only [hdo, hwr]; first | done | rfl⟩ (Ent.re [4,0,3,6] rfl)
   ·rw [if_neg (fun h => hu0 h.1)] at hwr
    refine J_region ?_
    refine Lq (Q_move rfl) ?_
    refine Lq ((Q_geq rfl rfl).as (v' := .bool false) (congrArg Value.bool (decide_eq_false hu0))) ?_
    refine Lq (Q_move rfl) ?_
    refine L_n rfl rfl rfl ?_
    refine L_n rfl rfl rfl ?_
    refine L_n rfl rfl rfl ?_
    refine L_n rfl rfl rfl ?_
    refine Lq (Q_pickF rfl rfl) ?_
    refine Ln ?_
    refine J_condF rfl ?_
    refine J_skip ?_
    refine seqQ_normal ?_
    refine J_seq ?_
    refine Sr ?_
    refine Lq (Q_move rfl) ?_
    refine Lq (Q_eql rfl rfl) ?_
    refine Ln ?_
    refine J_condF rfl ?_
    refine J_region ?_
    refine Lq (Q_move rfl) ?_
    refine Lq (Q_move rfl) ?_
    refine Lq (Q_build rfl) ?_
    refine Lq (Q_nilCheck rfl) ?_
    refine Lq (Q_fa0 rfl) ?_
    refine Lq (Q_ia (o' := 0) 0 rfl rfl rfl (by decide) (by decide)) ?_
    refine L_s rfl rfl (O_st (sz := 1) (cs' := [S6.v, T.v]) 4 rfl rfl rfl rfl rfl (by simp [Value.oneCell', Value.cells]) (by simp) rfl ?_)
    refine JL.norm ?_
    refine Ln ?_
    refine Sr ?_
    refine Lq (Q_assign rfl) ?_
    refine Ln ?_
    refine J_ret ?_
    exact retQ_ret _ [cel p [S6.v, T.v] 143, slc tB true S6 u, slc tB true T b] (.cons (RV_tmp rfl) .nil) ⟨S6, T, by simp only [hdo]; first | done | rfl, by simp only [hdo, hwr]; first | done | rfl⟩ (Ent.re [4,0,3,6] rfl)
  ·rw [e] at ht
   have hl := right_long hr
   have hdo : doW a b body upto = (a, wrote a b body upto, 0) := by rw [hd0, if_pos e]
   refine J_skip ?_
   refine seqQ_normal ?_
   refine Sr ?_
   refine Lq (Q_move rfl) ?_
   refine L_o rfl rfl rfl (O_call [0,1,2] [3] ht rfl rfl ?_)
   rintro _ _ ⟨rfl, rfl⟩
   refine JL.norm ?_
   refine Lq (Q_assign rfl) ?_
   refine Lq (Q_assign rfl) ?_
   refine Ln ?_
   refine J_seq ?_
   refine Sr ?_
   refine Lq (Q_move rfl) ?_
   refine Lq (Q_geq rfl rfl) ?_
   refine Ln ?_
   refine J_condT rfl ?_
   refine J_region ?_
   refine Lq (Q_move rfl) ?_
   refine Lq (Q_move rfl) ?_
   refine Lq (Q_nilCheck rfl) ?_
   refine Lq (Q_fa0 rfl) ?_
   refine Lq (Q_ia (o' := 0) 0 rfl rfl rfl (by decide) (by decide)) ?_
   refine Lq (Q_ldA 0 rfl rfl rfl) ?_
   refine L_o rfl rfl rfl (O_call [1] [0,2,3] (words_ok E S a hl) rfl rfl ?_)
   rintro _ _ ⟨rfl, rfl⟩
   refine JL.norm ?_
   refine Lq (Q_aiS (v' := .int .u32 (nw a 1 : Int)) 1 rfl rfl rfl (by decide) rfl rfl) ?_
   refine Lq (Q_assign rfl) ?_
   refine Ln ?_
   refine J_seq ?_
   obtain ⟨g, hgv⟩ : ∃ g : Nat, g = nw a 1 := ⟨_, rfl⟩
   have hgg : (if told a b = 1 then nw b 1 else if told a b = 0 then nw a 1 else 0) = g := by rw [if_neg (by omega), if_pos e, hgv]
   rw [← hgv]
   refine J_region ?_
   refine Lq (Q_move rfl) ?_
   refine Lq (Q_addN g 1 rfl rfl rfl rfl) ?_
   refine L_o rfl rfl rfl (O_call [] [0,1,2,3] (four_ok E ((g + 1) % 2 ^ 32)) rfl rfl ?_)
   rintro _ _ ⟨S1, rfl, rfl⟩
   refine JL.norm ?_
   refine Lq (Q_move rfl) ?_
   refine Lq (Q_slen rfl) ?_
   refine Lq (Q_cvtN body.length rfl rfl) ?_
   refine L_o rfl rfl rfl (O_call [] [0,1,2,3,4] (four_ok E (body.length % 2 ^ 32)) rfl rfl ?_)
   rintro _ _ ⟨S2, rfl, rfl⟩
   refine JL.norm ?_
   refine L_o rfl rfl rfl (O_app (τ := tB) 1 rfl (fun w h => h.rd 0 rfl) rfl rfl rfl rfl (by simp [four]) (by decide) (fun S3 => ?_))
   refine JL.norm ?_
   refine Lq (Q_assign rfl) ?_
   refine Ln ?_
   refine Sr ?_
   refine Lq (Q_move rfl) ?_
   refine Lq (Q_move rfl) ?_
   refine L_o rfl rfl rfl (O_appS tB_enc 1 rfl rfl rfl rfl rfl (by simp [four]; omega) (by decide) (fun S4 => ?_))
   refine JL.norm ?_
   refine Lq (Q_assign rfl) ?_
   refine Ln ?_
   refine Sr ?_
   refine Lq (Q_move rfl) ?_
   refine Lq (Q_b2s tB_enc (fun w h => h.rd 1 rfl) rfl) ?_
   refine L_o rfl rfl rfl (O_call [] [0,1,2,3,4,5] (sum_ok E _ (by simp [four]; omega)) rfl rfl ?_)
   rintro _ _ ⟨rfl, rfl⟩
   refine JL.norm ?_
   refine L_o rfl rfl rfl (O_call [] [0,1,2,3,4,5] (four_ok E _) rfl rfl ?_)
   rintro _ _ ⟨S5, rfl, rfl⟩
   refine JL.norm ?_
   refine Lq (Q_move rfl) ?_
   refine L_o rfl rfl rfl (O_app (τ := tB) 0 rfl (fun w h => h.rd 2 rfl) rfl rfl rfl rfl (by simp [four]; omega) (by decide) (fun S6 => ?_))
   refine JL.norm ?_
   refine Lq (Q_assign rfl) ?_
   refine Ln ?_
   refine J_seq ?_
   refine J_seq ?_
   have hwr : wrote a b body upto = if 0 ≤ upto ∧ upto < ((four (crc (four ((g + 1) % 2 ^ 32) ++ four (body.length % 2 ^ 32) ++ body)) ++ (four ((g + 1) % 2 ^ 32) ++ four (body.length % 2 ^ 32) ++ body)).length : Int) then (four (crc (four ((g + 1) % 2 ^ 32) ++ four (body.length % 2 ^ 32) ++ body)) ++ (four ((g + 1) % 2 ^ 32) ++ four (body.length % 2 ^ 32) ++ body)).take upto.toNat else four (crc (four ((g + 1) % 2 ^ 32) ++ four (body.length % 2 ^ 32) ++ body)) ++ (four ((g + 1) % 2 ^ 32) ++ four (body.length % 2 ^ 32) ++ body) := by simp only [wrote, hgg]
   generalize four (crc (four ((g + 1) % 2 ^ 32) ++ four (body.length % 2 ^ 32) ++ body)) ++ (four ((g + 1) % 2 ^ 32) ++ four (body.length % 2 ^ 32) ++ body) = u at hwr ⊢
   by_cases hu0 : 0 ≤ upto
   ·by_cases hu1 : upto < (u.length : Int)
    ·obtain ⟨m, rfl⟩ : ∃ m : Nat, upto = (m : Int) := ⟨upto.toNat, by omega⟩
     have hm : m ≤ u.length := by omega
     rw [if_pos ⟨hu0, hu1⟩, Int.toNat_natCast] at hwr
     refine J_region ?_
     refine Lq (Q_move rfl) ?_
     refine Lq ((Q_geq rfl rfl).as (v' := .bool true) (congrArg Value.bool (decide_eq_true hu0))) ?_
     refine Lq (Q_move rfl) ?_
     refine Lq (Q_move rfl) ?_
     refine Lq (Q_move rfl) ?_
     refine Lq (Q_lenAt 0 rfl rfl) ?_
     refine Lq ((Q_lss rfl rfl).as (v' := .bool true) (congrArg Value.bool (decide_eq_true hu1))) ?_
     refine Lq (Q_pickT rfl rfl) ?_
     refine Ln ?_
     refine J_condT rfl ?_
     refine J_region ?_
     refine Lq (Q_move rfl) ?_
     refine Lq (Q_move rfl) ?_
     refine Lq (Q_slH m (fun w h => h.rd 0 rfl) rfl rfl rfl hm rfl) ?_
     refine Lq (Q_assign rfl) ?_
     refine Ln ?_
     refine J_seq ?_
     refine Sr ?_
     refine Lq (Q_move rfl) ?_
     refine Lq (Q_eql rfl rfl) ?_
     refine Ln ?_
     refine J_condT rfl ?_
     refine J_region ?_
     refine Lq (Q_move rfl) ?_
     refine Lq (Q_move rfl) ?_
     refine Lq (Q_build rfl) ?_
     refine Lq (Q_nilCheck rfl) ?_
     refine Lq (Q_fa0 rfl) ?_
     refine Lq (Q_ia (o' := 1) 1 rfl rfl rfl (by decide) (by decide)) ?_
     refine L_s rfl rfl (O_st (sz := 1) (cs' := [S.v, (SV.sub S6 tB.sz 0 m).v]) 4 rfl rfl rfl rfl rfl (by simp [Value.oneCell', Value.cells]) (by simp) rfl ?_)
     refine JL.norm ?_
     refine Ln ?_
     refine Sr ?_
     refine Lq (Q_assign rfl) ?_
     refine Ln ?_
     refine J_ret ?_
     refine retQ_ret _ [cel p [S.v, (SV.sub S6 tB.sz 0 m).v] 143, slc tB true S a, slc tB true (SV.sub S6 tB.sz 0 m) ((u.take m).drop 0)] (.cons (RV_tmp rfl) .nil) ⟨S, (SV.sub S6 tB.sz 0 m), by simp only [hdo]; first | done | rfl, by simp only [hdo, hwr]; first | done | rfl⟩ ?_
     exact (Ent.sub 0 0 m rfl (Nat.zero_le _) hm).trans (Ent.re [4,3,0,6] rfl)
    ·rw [if_neg (fun h => hu1 h.2)] at hwr
     refine J_region ?_
     refine Lq (Q_move rfl) ?_
     refine Lq ((Q_geq rfl rfl).as (v' := .bool true) (congrArg Value.bool (decide_eq_true hu0))) ?_
     refine Lq (Q_move rfl) ?_
     refine Lq (Q_move rfl) ?_
     refine Lq (Q_move rfl) ?_
     refine Lq (Q_lenAt 0 rfl rfl) ?_
     refine Lq ((Q_lss rfl rfl).as (v' := .bool false) (congrArg Value.bool (decide_eq_false hu1))) ?_
     refine Lq (Q_pickT rfl rfl) ?_
     refine Ln ?_
     refine J_condF rfl ?_
     refine J_skip ?_
     refine seqQ_normal ?_
     refine J_seq ?_
     refine Sr ?_
     refine Lq (Q_move rfl) ?_
     refine Lq (Q_eql rfl rfl) ?_
     refine Ln ?_
     refine J_condT rfl ?_
     refine J_region ?_
     refine Lq (Q_move rfl) ?_
     refine Lq (Q_move rfl) ?_
     refine Lq (Q_build rfl) ?_
     refine Lq (Q_nilCheck rfl) ?_
     refine Lq (Q_fa0 rfl) ?_
     refine Lq (Q_ia (o' := 1) 1 rfl rfl rfl (by decide) (by decide)) ?_
     refine L_s rfl rfl (O_st (sz := 1) (cs' := [S.v, S6.v]) 4 rfl rfl rfl rfl rfl (by simp [Value.oneCell', Value.cells]) (by simp) rfl ?_)
     refine JL.norm ?_
     refine Ln ?_
     refine Sr ?_
     refine Lq (Q_assign rfl) ?_
     refine Ln ?_
     refine J_ret ?_
     exact retQ_ret _ [cel p [S.v, S6.v] 143, slc tB true S a, slc tB true S6 u] (.cons (RV_tmp rfl) .nil) ⟨S, S6, by simp only [hdo]; first | done | rfl, by simp only [hdo, hwr]; first | done | rfl⟩ (Ent.re [4,3,0,6] rfl)
   ·rw [if_neg (fun h => hu0 h.1)] at hwr
    refine J_region ?_
    refine Lq (Q_move rfl) ?_
    refine Lq ((Q_geq rfl rfl).as (v' := .bool false) (congrArg Value.bool (decide_eq_false hu0))) ?_
    refine Lq (Q_move rfl) ?_
    refine L_n rfl rfl rfl ?_
    refine L_n rfl rfl rfl ?_
    refine L_n rfl rfl rfl ?_
    refine L_n rfl rfl rfl ?_
    refine Lq (Q_pickF rfl rfl) ?_
    refine Ln ?_
    refine J_condF rfl ?_
    refine J_skip ?_
    refine seqQ_normal ?_
    refine J_seq ?_
    refine Sr ?_
    refine Lq (Q_move rfl) ?_
    refine Lq (Q_eql rfl rfl) ?_
    refine Ln ?_
    refine J_condT rfl ?_
    refine J_region ?_
    refine Lq (Q_move rfl) ?_
    refine Lq (Q_move rfl) ?_
    refine Lq (Q_build rfl) ?_
    refine Lq (Q_nilCheck rfl) ?_
    refine Lq (Q_fa0 rfl) ?_
    refine Lq (Q_ia (o' := 1) 1 rfl rfl rfl (by decide) (by decide)) ?_
    refine L_s rfl rfl (O_st (sz := 1) (cs' := [S.v, S6.v]) 4 rfl rfl rfl rfl rfl (by simp [Value.oneCell', Value.cells]) (by simp) rfl ?_)
    refine JL.norm ?_
    refine Ln ?_
    refine Sr ?_
    refine Lq (Q_assign rfl) ?_
    refine Ln ?_
    refine J_ret ?_
    exact retQ_ret _ [cel p [S.v, S6.v] 143, slc tB true S a, slc tB true S6 u] (.cons (RV_tmp rfl) .nil) ⟨S, S6, by simp only [hdo]; first | done | rfl, by simp only [hdo, hwr]; first | done | rfl⟩ (Ent.re [4,3,0,6] rfl)
  ·rw [e] at ht
   have hdo : doW a b body upto = (wrote a b body upto, b, 0) := by rw [hd0, if_neg (by omega)]
   refine J_skip ?_
   refine seqQ_normal ?_
   refine Sr ?_
   refine Lq (Q_move rfl) ?_
   refine L_o rfl rfl rfl (O_call [0,1,2] [3] ht rfl rfl ?_)
   rintro _ _ ⟨rfl, rfl⟩
   refine JL.norm ?_
   refine Lq (Q_assign rfl) ?_
   refine Lq (Q_assign rfl) ?_
   refine Ln ?_
   refine J_seq ?_
   refine Sr ?_
   refine Lq (Q_move rfl) ?_
   refine Lq (Q_geq rfl rfl) ?_
   refine Ln ?_
   refine J_condF rfl ?_
   refine J_skip ?_
   refine seqQ_normal ?_
   refine J_seq ?_
   obtain ⟨g, hg0⟩ : ∃ g : Nat, g = 0 := ⟨0, rfl⟩
   have hgg : (if told a b = 1 then nw b 1 else if told a b = 0 then nw a 1 else 0) = g := by rw [if_neg (by omega), if_neg (by omega), hg0]
   refine J_region ?_
   refine Lq (Q_move rfl) ?_
   refine Lq (Q_addN g 1 rfl rfl (by rw [hg0]; rfl) rfl) ?_
   refine L_o rfl rfl rfl (O_call [] [0,1,2,3] (four_ok E ((g + 1) % 2 ^ 32)) rfl rfl ?_)
   rintro _ _ ⟨S1, rfl, rfl⟩
   refine JL.norm ?_
   refine Lq (Q_move rfl) ?_
   refine Lq (Q_slen rfl) ?_
   refine Lq (Q_cvtN body.length rfl rfl) ?_
   refine L_o rfl rfl rfl (O_call [] [0,1,2,3,4] (four_ok E (body.length % 2 ^ 32)) rfl rfl ?_)
   rintro _ _ ⟨S2, rfl, rfl⟩
   refine JL.norm ?_
   refine L_o rfl rfl rfl (O_app (τ := tB) 1 rfl (fun w h => h.rd 0 rfl) rfl rfl rfl rfl (by simp [four]) (by decide) (fun S3 => ?_))
   refine JL.norm ?_
   refine Lq (Q_assign rfl) ?_
   refine Ln ?_
   refine Sr ?_
   refine Lq (Q_move rfl) ?_
   refine Lq (Q_move rfl) ?_
   refine L_o rfl rfl rfl (O_appS tB_enc 1 rfl rfl rfl rfl rfl (by simp [four]; omega) (by decide) (fun S4 => ?_))
   refine JL.norm ?_
   refine Lq (Q_assign rfl) ?_
   refine Ln ?_
   refine Sr ?_
   refine Lq (Q_move rfl) ?_
   refine Lq (Q_b2s tB_enc (fun w h => h.rd 1 rfl) rfl) ?_
   refine L_o rfl rfl rfl (O_call [] [0,1,2,3,4,5] (sum_ok E _ (by simp [four]; omega)) rfl rfl ?_)
   rintro _ _ ⟨rfl, rfl⟩
   refine JL.norm ?_
   refine L_o rfl rfl rfl (O_call [] [0,1,2,3,4,5] (four_ok E _) rfl rfl ?_)
   rintro _ _ ⟨S5, rfl, rfl⟩
   refine JL.norm ?_
   refine Lq (Q_move rfl) ?_
   refine L_o rfl rfl rfl (O_app (τ := tB) 0 rfl (fun w h => h.rd 2 rfl) rfl rfl rfl rfl (by simp [four]; omega) (by decide) (fun S6 => ?_))
   refine JL.norm ?_
   refine Lq (Q_assign rfl) ?_
   refine Ln ?_
   refine J_seq ?_
   refine J_seq ?_
   have hwr : wrote a b body upto = if 0 ≤ upto ∧ upto < ((four (crc (four ((g + 1) % 2 ^ 32) ++ four (body.length % 2 ^ 32) ++ body)) ++ (four ((g + 1) % 2 ^ 32) ++ four (body.length % 2 ^ 32) ++ body)).length : Int) then (four (crc (four ((g + 1) % 2 ^ 32) ++ four (body.length % 2 ^ 32) ++ body)) ++ (four ((g + 1) % 2 ^ 32) ++ four (body.length % 2 ^ 32) ++ body)).take upto.toNat else four (crc (four ((g + 1) % 2 ^ 32) ++ four (body.length % 2 ^ 32) ++ body)) ++ (four ((g + 1) % 2 ^ 32) ++ four (body.length % 2 ^ 32) ++ body) := by simp only [wrote, hgg]
   generalize four (crc (four ((g + 1) % 2 ^ 32) ++ four (body.length % 2 ^ 32) ++ body)) ++ (four ((g + 1) % 2 ^ 32) ++ four (body.length % 2 ^ 32) ++ body) = u at hwr ⊢
   by_cases hu0 : 0 ≤ upto
   ·by_cases hu1 : upto < (u.length : Int)
    ·obtain ⟨m, rfl⟩ : ∃ m : Nat, upto = (m : Int) := ⟨upto.toNat, by omega⟩
     have hm : m ≤ u.length := by omega
     rw [if_pos ⟨hu0, hu1⟩, Int.toNat_natCast] at hwr
     refine J_region ?_
     refine Lq (Q_move rfl) ?_
     refine Lq ((Q_geq rfl rfl).as (v' := .bool true) (congrArg Value.bool (decide_eq_true hu0))) ?_
     refine Lq (Q_move rfl) ?_
     refine Lq (Q_move rfl) ?_
     refine Lq (Q_move rfl) ?_
     refine Lq (Q_lenAt 0 rfl rfl) ?_
     refine Lq ((Q_lss rfl rfl).as (v' := .bool true) (congrArg Value.bool (decide_eq_true hu1))) ?_
     refine Lq (Q_pickT rfl rfl) ?_
     refine Ln ?_
     refine J_condT rfl ?_
     refine J_region ?_
     refine Lq (Q_move rfl) ?_
     refine Lq (Q_move rfl) ?_
     refine Lq (Q_slH m (fun w h => h.rd 0 rfl) rfl rfl rfl hm rfl) ?_
     refine Lq (Q_assign rfl) ?_
     refine Ln ?_
     refine J_seq ?_
     refine Sr ?_
     refine Lq (Q_move rfl) ?_
     refine Lq (Q_eql rfl rfl) ?_
     refine Ln ?_
     refine J_condF rfl ?_
     refine J_region ?_
     refine Lq (Q_move rfl) ?_
     refine Lq (Q_move rfl) ?_
     refine Lq (Q_build rfl) ?_
     refine Lq (Q_nilCheck rfl) ?_
     refine Lq (Q_fa0 rfl) ?_
     refine Lq (Q_ia (o' := 0) 0 rfl rfl rfl (by decide) (by decide)) ?_
     refine L_s rfl rfl (O_st (sz := 1) (cs' := [(SV.sub S6 tB.sz 0 m).v, T.v]) 3 rfl rfl rfl rfl rfl (by simp [Value.oneCell', Value.cells]) (by simp) rfl ?_)
     refine JL.norm ?_
     refine Ln ?_
     refine Sr ?_
     refine Lq (Q_assign rfl) ?_
     refine Ln ?_
     refine J_ret ?_
     refine retQ_ret _ [cel p [(SV.sub S6 tB.sz 0 m).v, T.v] 143, slc tB true (SV.sub S6 tB.sz 0 m) ((u.take m).drop 0), slc tB true T b] (.cons (RV_tmp rfl) .nil) ⟨(SV.sub S6 tB.sz 0 m), T, by simp only [hdo]; first | done | rfl, by simp only [hdo, hwr]; first | done | rfl⟩ ?_
     exact (Ent.sub 0 0 m rfl (Nat.zero_le _) hm).trans (Ent.re [3,0,5,6] rfl)
    ·rw [if_neg (fun h => hu1 h.2)] at hwr
     refine J_region ?_
     refine Lq (Q_move rfl) ?_
     refine Lq ((Q_geq rfl rfl).as (v' := .bool true) (congrArg Value.bool (decide_eq_true hu0))) ?_
     refine Lq (Q_move rfl) ?_
     refine Lq (Q_move rfl) ?_
     refine Lq (Q_move rfl) ?_
     refine Lq (Q_lenAt 0 rfl rfl) ?_
     refine Lq ((Q_lss rfl rfl).as (v' := .bool false) (congrArg Value.bool (decide_eq_false hu1))) ?_
     refine Lq (Q_pickT rfl rfl) ?_
     refine Ln ?_
     refine J_condF rfl ?_
     refine J_skip ?_
     refine seqQ_normal ?_
     refine J_seq ?_
     refine Sr ?_
     refine Lq (Q_move rfl) ?_
     refine Lq (Q_eql rfl rfl) ?_
     refine Ln ?_
     refine J_condF rfl ?_
     refine J_region ?_
     refine Lq (Q_move rfl) ?_
     refine Lq (Q_move rfl) ?_
     refine Lq (Q_build rfl) ?_
     refine Lq (Q_nilCheck rfl) ?_
     refine Lq (Q_fa0 rfl) ?_
     refine Lq (Q_ia (o' := 0) 0 rfl rfl rfl (by decide) (by decide)) ?_
     refine L_s rfl rfl (O_st (sz := 1) (cs' := [S6.v, T.v]) 3 rfl rfl rfl rfl rfl (by simp [Value.oneCell', Value.cells]) (by simp) rfl ?_)
     refine JL.norm ?_
     refine Ln ?_
     refine Sr ?_
     refine Lq (Q_assign rfl) ?_
     refine Ln ?_
     refine J_ret ?_
     exact retQ_ret _ [cel p [S6.v, T.v] 143, slc tB true S6 u, slc tB true T b] (.cons (RV_tmp rfl) .nil) ⟨S6, T, by simp only [hdo]; first | done | rfl, by simp only [hdo, hwr]; first | done | rfl⟩ (Ent.re [3,0,5,6] rfl)
   ·rw [if_neg (fun h => hu0 h.1)] at hwr
    refine J_region ?_
    refine Lq (Q_move rfl) ?_
    refine Lq ((Q_geq rfl rfl).as (v' := .bool false) (congrArg Value.bool (decide_eq_false hu0))) ?_
    refine Lq (Q_move rfl) ?_
    refine L_n rfl rfl rfl ?_
    refine L_n rfl rfl rfl ?_
    refine L_n rfl rfl rfl ?_
    refine L_n rfl rfl rfl ?_
    refine Lq (Q_pickF rfl rfl) ?_
    refine Ln ?_
    refine J_condF rfl ?_
    refine J_skip ?_
    refine seqQ_normal ?_
    refine J_seq ?_
    refine Sr ?_
    refine Lq (Q_move rfl) ?_
    refine Lq (Q_eql rfl rfl) ?_
    refine Ln ?_
    refine J_condF rfl ?_
    refine J_region ?_
    refine Lq (Q_move rfl) ?_
    refine Lq (Q_move rfl) ?_
    refine Lq (Q_build rfl) ?_
    refine Lq (Q_nilCheck rfl) ?_
    refine Lq (Q_fa0 rfl) ?_
    refine Lq (Q_ia (o' := 0) 0 rfl rfl rfl (by decide) (by decide)) ?_
    refine L_s rfl rfl (O_st (sz := 1) (cs' := [S6.v, T.v]) 3 rfl rfl rfl rfl rfl (by simp [Value.oneCell', Value.cells]) (by simp) rfl ?_)
    refine JL.norm ?_
    refine Ln ?_
    refine Sr ?_
    refine Lq (Q_assign rfl) ?_
    refine Ln ?_
    refine J_ret ?_
    exact retQ_ret _ [cel p [S6.v, T.v] 143, slc tB true S6 u, slc tB true T b] (.cons (RV_tmp rfl) .nil) ⟨S6, T, by simp only [hdo]; first | done | rfl, by simp only [hdo, hwr]; first | done | rfl⟩ (Ent.re [3,0,5,6] rfl)
end Go.Proofs
/- What is told of the slots, and a byte spoilt. -/
set_option autoImplicit false
namespace Go.Proofs
open Go.SL
attribute [local irreducible] J JL QOp JOp seqQ blockQ loopQ retQ slc cel hex star pur stars Does RV Ent pAt
/-- What a load tells. -/
def loadT (a b : List UInt8) : List UInt8 := if told a b = 1 then b.drop 12 else if told a b = 0 then a.drop 12 else []
def loadN (a b : List UInt8) : Nat := if told a b = 1 then nw b 1 else if told a b = 0 then nw a 1 else 0
theorem load_ok (E : World) (p : Nat) (S T : SV) (a b : List UInt8) (ha : a.length ≤ 100000) (hb : b.length ≤ 100000) :
 Does Tryz.prog E 44 [.pointer (some ⟨p, 0, none⟩)] [cel p [S.v, T.v] 143, slc tB true S a, slc tB true T b] fun v L => v = .tuple #[str (loadT a b), .int .i64 (loadN a b : Int)] ∧ L = [cel p [S.v, T.v] 143, slc tB true S a, slc tB true T b] := by
 have ht := told_ok E p S T a b ha hb
 refine Does.of Tryz.func44 rfl Tryz.ntmps44 rfl rfl fun F => ?_
 refine J.norm ?_
 refine Sr ?_
 refine Lq (Q_assign rfl) ?_
 refine Lq (Q_assign rfl) ?_
 refine Ln ?_
 refine J_seq ?_
 refine Sr ?_
 refine Lq (Q_move rfl) ?_
 refine Lq (Q_peql rfl rfl) ?_
 refine Ln ?_
 refine J_condF rfl ?_
 refine J_skip ?_
 refine seqQ_normal ?_
 refine J_seq ?_
 rcases told_cases a b with ⟨e, hr⟩ | ⟨e, hr⟩ | e
 ·rw [e] at ht
  have hl := right_long hr
  have h1 : loadT a b = b.drop 12 := by simp only [loadT, if_pos e]
  have h2 : loadN a b = nw b 1 := by simp only [loadN, if_pos e]
  have hn := nw_lt b 1
  refine J_region ?_
  refine Lq (Q_move rfl) ?_
  refine L_o rfl rfl rfl (O_call [0,1,2] [3] ht rfl rfl ?_)
  rintro _ _ ⟨rfl, rfl⟩
  refine JL.norm ?_
  refine Lq (Q_assign rfl) ?_
  refine Ln ?_
  refine J_seq ?_
  refine Sr ?_
  refine Lq (Q_move rfl) ?_
  refine Lq (Q_lss rfl rfl) ?_
  refine Ln ?_
  refine J_condF rfl ?_
  refine J_skip ?_
  refine seqQ_normal ?_
  refine Sr ?_
  refine Lq (Q_move rfl) ?_
  refine Lq (Q_move rfl) ?_
  refine Lq (Q_nilCheck rfl) ?_
  refine Lq (Q_fa0 rfl) ?_
  refine Lq (Q_ia (o' := 1) 1 rfl rfl rfl (by decide) (by decide)) ?_
  refine Lq (Q_ldA 0 rfl rfl rfl) ?_
  refine L_o rfl rfl rfl (O_alloc fun b5 => ?_)
  refine L_s rfl rfl (O_stW 0 rfl rfl rfl rfl ?_)
  refine JL.norm ?_
  refine Ln ?_
  refine J_seq ?_
  refine DH [0,3] [0,1,2,3,4,6,7,8,9] (.quiet 0 (.quiet 1 (.quiet 2 (.quiet 3 (.quiet 4 (.loud 5 (.quiet 6 (.quiet 7 (.quiet 8 (.quiet 9 .done)))))))))) Tryz.mixed ?_
  refine Sq (Ent.re [0,3] rfl) rfl (Q_fa0 rfl) ?_
  refine Sq (Ent.re [0,3] rfl) rfl (Q_ld 0 rfl rfl rfl rfl) ?_
  refine Sq (Ent.re [0,3] rfl) rfl (Q_slL 12 (fun w h => h.rd 1 rfl) rfl rfl rfl hl rfl) ?_
  refine Sq (Ent.re [0,3] rfl) rfl (Q_b2s tB_enc (fun w h => (h.rd 1 rfl).sub 12 b.length hl (Nat.le_refl _)) rfl) ?_
  refine Sq (Ent.re [0,3] rfl) rfl (Q_ldA 0 rfl rfl rfl) ?_
  refine S_o rfl rfl rfl rfl (O_call [3] [0,1,2,4] (words_ok E T b hl) rfl rfl ?_)
  (rintro _ _ ⟨rfl, rfl⟩; refine ⟨_, fun _ => ⟨Ent.reN [1,0] rfl, Ent.refl _⟩, ?_⟩)
  refine JS.norm ?_
  refine Sq (Ent.re [1,0] rfl) rfl (Q_aiS (v' := .int .u32 (nw b 1 : Int)) 1 rfl rfl rfl (by decide) rfl rfl) ?_
  refine Sq (Ent.re [1,0] rfl) rfl (Q_cvt rfl (IntWalk.i64_in _ (by omega))) ?_
  refine Sq (Ent.re [1,0] rfl) rfl (Q_assign rfl) ?_
  refine Sq (Ent.re [1,0] rfl) rfl (Q_assign rfl) ?_
  refine S_nil ?_
  refine seqQ_normal ?_
  refine J_ret ?_
  rw [List.take_length]
  exact retQ_ret _ [cel p [S.v, T.v] 143, slc tB true S a, slc tB true T b] (.cons (RV_tmp rfl) (.cons (RV_tmp rfl) .nil)) ⟨by rw [h1, h2]; rfl, rfl⟩ (Ent.re [2,3,0,4] rfl)
 ·rw [e] at ht
  have hl := right_long hr
  have h1 : loadT a b = a.drop 12 := by simp only [loadT, e]; rfl
  have h2 : loadN a b = nw a 1 := by simp only [loadN, e]; rfl
  have hn := nw_lt a 1
  refine J_region ?_
  refine Lq (Q_move rfl) ?_
  refine L_o rfl rfl rfl (O_call [0,1,2] [3] ht rfl rfl ?_)
  rintro _ _ ⟨rfl, rfl⟩
  refine JL.norm ?_
  refine Lq (Q_assign rfl) ?_
  refine Ln ?_
  refine J_seq ?_
  refine Sr ?_
  refine Lq (Q_move rfl) ?_
  refine Lq (Q_lss rfl rfl) ?_
  refine Ln ?_
  refine J_condF rfl ?_
  refine J_skip ?_
  refine seqQ_normal ?_
  refine Sr ?_
  refine Lq (Q_move rfl) ?_
  refine Lq (Q_move rfl) ?_
  refine Lq (Q_nilCheck rfl) ?_
  refine Lq (Q_fa0 rfl) ?_
  refine Lq (Q_ia (o' := 0) 0 rfl rfl rfl (by decide) (by decide)) ?_
  refine Lq (Q_ldA 0 rfl rfl rfl) ?_
  refine L_o rfl rfl rfl (O_alloc fun b5 => ?_)
  refine L_s rfl rfl (O_stW 0 rfl rfl rfl rfl ?_)
  refine JL.norm ?_
  refine Ln ?_
  refine J_seq ?_
  refine DH [0,2] [0,1,2,3,4,6,7,8,9] (.quiet 0 (.quiet 1 (.quiet 2 (.quiet 3 (.quiet 4 (.loud 5 (.quiet 6 (.quiet 7 (.quiet 8 (.quiet 9 .done)))))))))) Tryz.mixed ?_
  refine Sq (Ent.re [0,2] rfl) rfl (Q_fa0 rfl) ?_
  refine Sq (Ent.re [0,2] rfl) rfl (Q_ld 0 rfl rfl rfl rfl) ?_
  refine Sq (Ent.re [0,2] rfl) rfl (Q_slL 12 (fun w h => h.rd 1 rfl) rfl rfl rfl hl rfl) ?_
  refine Sq (Ent.re [0,2] rfl) rfl (Q_b2s tB_enc (fun w h => (h.rd 1 rfl).sub 12 a.length hl (Nat.le_refl _)) rfl) ?_
  refine Sq (Ent.re [0,2] rfl) rfl (Q_ldA 0 rfl rfl rfl) ?_
  refine S_o rfl rfl rfl rfl (O_call [2] [0,1,3,4] (words_ok E S a hl) rfl rfl ?_)
  (rintro _ _ ⟨rfl, rfl⟩; refine ⟨_, fun _ => ⟨Ent.reN [1,0] rfl, Ent.refl _⟩, ?_⟩)
  refine JS.norm ?_
  refine Sq (Ent.re [1,0] rfl) rfl (Q_aiS (v' := .int .u32 (nw a 1 : Int)) 1 rfl rfl rfl (by decide) rfl rfl) ?_
  refine Sq (Ent.re [1,0] rfl) rfl (Q_cvt rfl (IntWalk.i64_in _ (by omega))) ?_
  refine Sq (Ent.re [1,0] rfl) rfl (Q_assign rfl) ?_
  refine Sq (Ent.re [1,0] rfl) rfl (Q_assign rfl) ?_
  refine S_nil ?_
  refine seqQ_normal ?_
  refine J_ret ?_
  rw [List.take_length]
  exact retQ_ret _ [cel p [S.v, T.v] 143, slc tB true S a, slc tB true T b] (.cons (RV_tmp rfl) (.cons (RV_tmp rfl) .nil)) ⟨by rw [h1, h2]; rfl, rfl⟩ (Ent.re [2,0,3,4] rfl)
 ·rw [e] at ht
  have h1 : loadT a b = [] := by simp only [loadT, e]; rfl
  have h2 : loadN a b = 0 := by simp only [loadN, e]; rfl
  refine J_region ?_
  refine Lq (Q_move rfl) ?_
  refine L_o rfl rfl rfl (O_call [0,1,2] [3] ht rfl rfl ?_)
  rintro _ _ ⟨rfl, rfl⟩
  refine JL.norm ?_
  refine Lq (Q_assign rfl) ?_
  refine Ln ?_
  refine J_seq ?_
  refine Sr ?_
  refine Lq (Q_move rfl) ?_
  refine Lq (Q_lss rfl rfl) ?_
  refine Ln ?_
  refine J_condT rfl ?_
  refine Sr ?_
  refine Lq (Q_assign rfl) ?_
  refine Lq (Q_assign rfl) ?_
  refine Ln ?_
  refine J_ret ?_
  refine seqQ_ret ?_
  exact retQ_ret _ [cel p [S.v, T.v] 143, slc tB true S a, slc tB true T b] (.cons (RV_tmp rfl) (.cons (RV_tmp rfl) .nil)) ⟨by rw [h1, h2]; rfl, rfl⟩ (Ent.refl _)
end Go.Proofs
/- A log and two slots, each as one chunk. -/
set_option autoImplicit false
namespace Go.Proofs
open Go.SL Go.Proofs.Bt
/-- A log. -/
def segA (p : Nat) (g : Lg) : HProp := hex fun q : SV × List Fp => star (pur (q.2.map (·.1) = g.fs)) (stars [segC p g.size g.sure q.1, slc tPf true q.1 q.2, fsC q.2])
theorem Ent.seg {p size sure : Nat} {S : SV} {ps : List Fp} {g : Lg} {L : List HProp} (h1 : size = g.size) (h2 : sure = g.sure) (h3 : ps.map (·.1) = g.fs) : Ent (segC p size sure S :: slc tPf true S ps :: fsC ps :: L) (segA p g :: L) := fun E w h => by
 subst h1 h2
 have h1 := Sat.rot (A := [segC p g.size g.sure S, slc tPf true S ps, fsC ps]) (B := L) h
 have h4 : Sat E w (stars [segC p g.size g.sure S, slc tPf true S ps, fsC ps] :: L) := Sat.rot (A := L) h1.fold
 have h5 : Sat E w (pur (ps.map (·.1) = g.fs) :: stars [segC p g.size g.sure S, slc tPf true S ps, fsC ps] :: L) := h4.lay fun _ => h3
 exact (h5.mkstar).mkex (f := fun q : SV × List Fp => star (pur (q.2.map (·.1) = g.fs)) (stars [segC p g.size g.sure q.1, slc tPf true q.1 q.2, fsC q.2])) (S, ps)
theorem Does.seg {P : Program} {E : World} {f : Nat} {args : List Value} {p : Nat} {g : Lg} {L : List HProp} {K : Value → List HProp → Prop} (h : ∀ (S : SV) (ps : List Fp), ps.map (·.1) = g.fs → Does P E f args (segC p g.size g.sure S :: slc tPf true S ps :: fsC ps :: L) K) : Does P E f args (segA p g :: L) K := fun F w hs => by
 obtain ⟨q, hq⟩ := Sat.ex (f := fun q : SV × List Fp => star (pur (q.2.map (·.1) = g.fs)) (stars [segC p g.size g.sure q.1, slc tPf true q.1 q.2, fsC q.2])) (R := L ++ [F]) hs
 obtain ⟨hm, h2⟩ := hq.star.fact
 exact h q.1 q.2 hm F w (Sat.rot (A := L ++ [F]) (h2.rot (A := [_]) (B := L ++ [F])).unfold)
/-- Two slots. -/
def snapA (p : Nat) (a b : List UInt8) : HProp := hex fun q : SV × SV => stars [cel p [q.1.v, q.2.v] 143, slc tB true q.1 a, slc tB true q.2 b]
theorem Ent.snap {p : Nat} {S T : SV} {a b : List UInt8} {L : List HProp} : Ent (cel p [S.v, T.v] 143 :: slc tB true S a :: slc tB true T b :: L) (snapA p a b :: L) := fun E w h => by
 have h1 := Sat.rot (A := [cel p [S.v, T.v] 143, slc tB true S a, slc tB true T b]) (B := L) h
 have h4 : Sat E w (stars [cel p [S.v, T.v] 143, slc tB true S a, slc tB true T b] :: L) := Sat.rot (A := L) h1.fold
 exact h4.mkex (f := fun q : SV × SV => stars [cel p [q.1.v, q.2.v] 143, slc tB true q.1 a, slc tB true q.2 b]) (S, T)
theorem Does.snap {P : Program} {E : World} {f : Nat} {args : List Value} {p : Nat} {a b : List UInt8} {L : List HProp} {K : Value → List HProp → Prop} (h : ∀ S T : SV, Does P E f args (cel p [S.v, T.v] 143 :: slc tB true S a :: slc tB true T b :: L) K) : Does P E f args (snapA p a b :: L) K := fun F w hs => by
 obtain ⟨q, hq⟩ := Sat.ex (f := fun q : SV × SV => stars [cel p [q.1.v, q.2.v] 143, slc tB true q.1 a, slc tB true q.2 b]) (R := L ++ [F]) hs
 exact h q.1 q.2 F w (Sat.rot (A := L ++ [F]) (hq.rot (A := [_]) (B := L ++ [F])).unfold)
end Go.Proofs
/- What is done to a log, as one chunk. -/
set_option autoImplicit false
namespace Go.Proofs
open Go.SL Go.Proofs.Bt
attribute [local irreducible] J JL QOp JOp seqQ blockQ loopQ retQ slc cel hex star pur stars Does RV Ent pAt scopeQ
attribute [local irreducible] nodeA nodeX treeA segA snapA
section
variable (E : World) (p c : Nat) (g : Lg)
theorem gsync_ok (hg : Good g c) (hc : c ≤ 1000000) : Does Tryz.prog E 42 [.pointer (some ⟨p, 0, none⟩)] [segA p g] fun v L => v = .tuple #[] ∧ L = [segA p (syncL g)] := by
 refine Does.seg fun S ps hps => ?_
 have hl : ps.length ≤ 16 := by have := congrArg List.length hps; rw [List.length_map] at this; rw [this]; exact hg.few
 have hm : ∀ r ∈ ps, r.1 ∈ g.fs := fun r hr => by rw [← hps]; exact List.mem_map_of_mem hr
 refine Does.post (sync_ok E p g.size g.sure S ps hl (by rw [hps]; exact Nat.le_trans hg.next (by omega)) (fun r hr => ⟨(hg.file _ (hm r hr)).1, (hg.file _ (hm r hr)).2.1⟩)) (fun F => Ent.refl _) ?_
 rintro v L ⟨hv, rfl⟩
 refine ⟨_, ⟨hv, rfl⟩, fun F => Ent.seg (g := syncL g) rfl ?_ ?_⟩
 ·show _ = (if g.fs = [] then g.sure else nextOf g.fs)
  rw [hps]
  by_cases h0 : ps = []
  ·rw [if_pos h0, if_pos (by rw [← hps, h0]; rfl)]
  ·rw [if_neg h0, if_neg (by rw [← hps]; simpa using h0)]
 ·rw [onP_fst, hps]; rfl
theorem gnext_ok (hg : Good g c) (hc : c ≤ 1000000) : Does Tryz.prog E 43 [.pointer (some ⟨p, 0, none⟩)] [segA p g] fun v L => v = .int .i64 (nextOf g.fs : Int) ∧ L = [segA p g] := by
 refine Does.seg fun S ps hps => ?_
 have hl : ps.length ≤ 16 := by have := congrArg List.length hps; rw [List.length_map] at this; rw [this]; exact hg.few
 refine Does.post (snext_ok E p g.size g.sure S ps hl (by rw [hps]; exact Nat.le_trans hg.next (by omega))) (fun F => Ent.refl _) ?_
 rintro v L ⟨hv, rfl⟩
 exact ⟨_, ⟨by rw [hv, hps], rfl⟩, fun F => Ent.seg rfl rfl hps⟩
theorem gfirst_ok (hg : Good g c) : Does Tryz.prog E 53 [.pointer (some ⟨p, 0, none⟩)] [segA p g] fun v L => v = .int .i64 (firstOf g.fs : Int) ∧ L = [segA p g] := by
 refine Does.seg fun S ps hps => ?_
 have hl : ps.length ≤ 16 := by have := congrArg List.length hps; rw [List.length_map] at this; rw [this]; exact hg.few
 refine Does.post (sfirst_ok E p g.size g.sure S ps hl) (fun F => Ent.refl _) ?_
 rintro v L ⟨hv, rfl⟩
 exact ⟨_, ⟨by rw [hv, hps], rfl⟩, fun F => Ent.seg rfl rfl hps⟩
theorem gdrop_ok (hg : Good g c) (hc : c ≤ 1000000) (seq : Int) : Does Tryz.prog E 50 [.pointer (some ⟨p, 0, none⟩), .int .i64 seq] [segA p g] fun v L => v = .int .i64 ((dropL g seq).2 : Int) ∧ L = [segA p (dropL g seq).1] := by
 refine Does.seg fun S ps hps => ?_
 have hl : ps.length ≤ 16 := by have := congrArg List.length hps; rw [List.length_map] at this; rw [this]; exact hg.few
 have hm : ∀ r ∈ ps, r.1 ∈ g.fs := fun r hr => by rw [← hps]; exact List.mem_map_of_mem hr
 refine Does.post (sdrop_ok E p g.size g.sure S ps seq hl (fun r hr => Nat.le_trans (hg.file _ (hm r hr)).2.2.2 (by omega))) (fun F => Ent.refl _) ?_
 rintro v L ⟨S', hv, rfl⟩
 refine ⟨_, ⟨by rw [hv, hps]; rfl, rfl⟩, fun F => Ent.seg (g := (dropL g seq).1) rfl rfl ?_⟩
 show (ps.drop _).map _ = g.fs.drop (dropN g.fs seq)
 rw [List.map_drop, hps]
end
end Go.Proofs
/- What is done to a log, as one chunk: the rest. -/
set_option autoImplicit false
namespace Go.Proofs
open Go.SL Go.Proofs.Bt
theorem Does.frame {P : Program} {E : World} {f : Nat} {args : List Value} {pre R : List HProp} {K : Value → List HProp → Prop} (h : Does P E f args pre K) : Does P E f args (pre ++ R) (fun v L => ∃ L', K v L' ∧ L = L' ++ R) := fun F w hs => by
 rw [List.append_assoc] at hs
 refine (h (stars (R ++ [F])) w hs.fold).mono ?_
 rintro e w' ⟨v, L', he, hk, hs'⟩
 refine ⟨v, L' ++ R, he, ⟨L', hk, rfl⟩, ?_⟩
 rw [List.append_assoc]
 exact hs'.unfold
attribute [local irreducible] J JL QOp JOp seqQ blockQ loopQ retQ slc cel hex star pur stars Does RV Ent pAt scopeQ
attribute [local irreducible] nodeA nodeX treeA segA snapA
section
variable (E : World) (p c : Nat) (g : Lg)
theorem gcrash_ok (hg : Good g c) (hc : c ≤ 1000000) (keep : Nat) (hk : keep < 2 ^ 64) : Does Tryz.prog E 51 [.pointer (some ⟨p, 0, none⟩), .int .u64 (keep : Int)] [segA p g] fun v L => v = .tuple #[] ∧ L = [segA p (crashL g keep)] := by
 refine Does.seg fun S ps hps => ?_
 have hl : ps.length ≤ 16 := by have := congrArg List.length hps; rw [List.length_map] at this; rw [this]; exact hg.few
 have hm : ∀ r ∈ ps, r.1 ∈ g.fs := fun r hr => by rw [← hps]; exact List.mem_map_of_mem hr
 have hn := (hg.crash (keep := keep)).next
 refine Does.post (crash_ok E p g.size g.sure keep S ps hk hl (by rw [hps]; exact Nat.le_trans hn (by omega)) (fun r hr => ⟨(hg.file _ (hm r hr)).1, (hg.file _ (hm r hr)).2.1⟩)) (fun F => Ent.refl _) ?_
 rintro v L ⟨hv, rfl⟩
 refine ⟨_, ⟨hv, rfl⟩, fun F => Ent.seg (g := crashL g keep) rfl ?_ ?_⟩
 ·show _ = (if g.fs = [] then g.sure else nextOf (onLast g.fs fun f => crashF f keep))
  rw [hps]
  by_cases h0 : ps = []
  ·rw [if_pos h0, if_pos (by rw [← hps, h0]; rfl)]
  ·rw [if_neg h0, if_neg (by rw [← hps]; simpa using h0)]
 ·rw [onP_fst, hps]; rfl
theorem gget_ok (hg : Good g c) (hc : c ≤ 1000000) (i : Int) : Does Tryz.prog E 54 [.pointer (some ⟨p, 0, none⟩), .int .i64 i] [segA p g] fun v L => v = getV g.fs i ∧ L = [segA p g] := by
 refine Does.seg fun S ps hps => ?_
 have hl : ps.length ≤ 16 := by have := congrArg List.length hps; rw [List.length_map] at this; rw [this]; exact hg.few
 have hm : ∀ r ∈ ps, r.1 ∈ g.fs := fun r hr => by rw [← hps]; exact List.mem_map_of_mem hr
 refine Does.post (sget_ok E p g.size g.sure S ps i hl (fun r hr => ⟨(hg.file _ (hm r hr)).1, (hg.file _ (hm r hr)).2.2.1, Nat.le_trans (hg.file _ (hm r hr)).2.2.2 (by omega)⟩)) (fun F => Ent.refl _) ?_
 rintro v L ⟨hv, rfl⟩
 exact ⟨_, ⟨by rw [hv, hps], rfl⟩, fun F => Ent.seg rfl rfl hps⟩
theorem gappend_ok (hg : Good g c) (hc : c ≤ 1000000) (t : List UInt8) : Does Tryz.prog E 62 [.pointer (some ⟨p, 0, none⟩), str t] [segA p g] fun v L => v = .tuple #[.int .i64 ((appL g t).2.1 : Int), .int .i64 (appL g t).2.2] ∧ L = [segA p (appL g t).1] := by
 refine Does.seg fun S ps hps => ?_
 have hl : ps.length ≤ 16 := by have := congrArg List.length hps; rw [List.length_map] at this; rw [this]; exact hg.few
 have hm : ∀ r ∈ ps, r.1 ∈ g.fs := fun r hr => by rw [← hps]; exact List.mem_map_of_mem hr
 have hga : (⟨g.size, g.sure, ps.map (·.1)⟩ : Lg) = g := by rw [hps]
 have h := sappend_ok E p g.size g.sure S ps t hg.size.1 hg.size.2 hl (by rw [hps]; exact Nat.le_trans hg.next (by omega)) (fun r hr => ⟨(hg.file _ (hm r hr)).1, (hg.file _ (hm r hr)).2.1⟩)
 rw [hga] at h
 refine Does.post h (fun F => Ent.refl _) ?_
 rintro v L ⟨S', ps', hv, hfs, rfl⟩
 exact ⟨_, ⟨hv, rfl⟩, fun F => Ent.seg (g := (appL g t).1) (appL_size g t).symm rfl hfs⟩
end
end Go.Proofs
/- A chain of one node: words taken, up to a decision. -/
set_option autoImplicit false
namespace Go.Proofs
open Go.SL Go.Proofs.Bt
def agA (h : Nat) (v : Ky) : Ag := ((ag1 h v).sW0 (prop0 v)).sStep 2
def agB (h : Nat) (v : Ky) : Ag := (((((agA h v).sSeen true).sValid v 0).sLock v 0).sStep 3)
def agD (h : Nat) (v : Ky) : Ag := ((agB h v).sDone true).sDec v
theorem vots0 (v : Ky) : Vots [] v := ⟨by simp, by simp⟩
theorem vots1 (v : Ky) : Vots [vote0 2 v] v := ⟨by simp, by simp⟩
theorem vots2 (v : Ky) : Vots [vote0 2 v, vote0 3 v] v := ⟨by simp, by simp⟩
attribute [local irreducible] J JL QOp JOp seqQ blockQ loopQ retQ slc cel hex star pur stars Does RV Ent pAt scopeQ
attribute [local irreducible] votA agL zer63 bz122
section
variable (E : World) (p pa pv : Nat) (h : Nat) (v : Ky) (hv : mayV v = true)
include hv
theorem tk1_ok (hh : h ≤ 64) : Does Tryz.prog E 83 [.pointer (some ⟨pa, 0, none⟩), .agg (wdV (prop0 v)).toArray] [agC pa (ag1 h v) pv .nilFunc, votA pv []] fun r L => ∃ S : SV, r = S.v ∧ L = [agC pa (agA h v) pv .nilFunc, slc tWd true S [vote0 2 v], votA pv []] := by
 obtain ⟨h1, h2⟩ := mayV_t hv
 refine atake_ok E pa pv (prop0 v) (ag1 h v) ((ag1 h v).sW0 (prop0 v)) (agA h v) [] [] [vote0 2 v] rfl rfl (fun b => ?_) (fun b => ?_) rfl (fun b => .inr ⟨rfl, ?_⟩)
 ·refine (Does.frame (R := [votA pv []]) (countP_ok E pa pv (ag1 h v) (sayV b) v hh h1 h2 rfl)).mono ?_
  rintro r L ⟨L', ⟨hr, rfl⟩, rfl⟩
  exact ⟨hr, rfl⟩
 ·exact arule1_ok E pa pv b ((ag1 h v).sW0 (prop0 v)) [] v SV.nil [] rfl rfl h1 rfl rfl (vots0 v) rfl (by decide)
 ·exact arule2_ok E pa pv (agA h v) [] v (sayV b) rfl rfl h1 rfl rfl (vots0 v) rfl rfl
theorem tk2_ok : Does Tryz.prog E 83 [.pointer (some ⟨pa, 0, none⟩), .agg (wdV (vote0 2 v)).toArray] [agC pa (agA h v) pv .nilFunc, votA pv []] fun r L => ∃ S : SV, r = S.v ∧ L = [agC pa (agB h v) pv .nilFunc, slc tWd true S [vote0 3 v], votA pv [vote0 2 v]] := by
 obtain ⟨h1, h2⟩ := mayV_t hv
 refine atake_ok E pa pv (vote0 2 v) (agA h v) (agA h v) (agB h v) [] [vote0 2 v] [vote0 3 v] rfl rfl (fun b => ?_) (fun b => ?_) rfl (fun b => .inr ⟨rfl, ?_⟩)
 ·exact countV_ok E pa pv (agA h v) (sayV b) [] 2 v (.inl rfl) h2 (by simp) (by simp)
 ·exact arule3_ok E pa pv b (agA h v) [vote0 2 v] v SV.nil [] rfl rfl h1 rfl rfl (vots1 v) rfl rfl (by decide)
 ·exact arule4_ok E pa pv (agB h v) [vote0 2 v] v (sayV b) rfl rfl h1 rfl rfl (vots1 v) rfl
theorem tk3_ok : Does Tryz.prog E 83 [.pointer (some ⟨pa, 0, none⟩), .agg (wdV (vote0 3 v)).toArray] [agC pa (agB h v) pv .nilFunc, votA pv [vote0 2 v]] fun r L => ∃ S : SV, r = S.v ∧ L = [agC pa (agD h v) pv .nilFunc, slc tWd true S [], votA pv [vote0 2 v, vote0 3 v]] := by
 obtain ⟨h1, h2⟩ := mayV_t hv
 refine atake_ok E pa pv (vote0 3 v) (agB h v) (agB h v) (agD h v) [vote0 2 v] [vote0 2 v, vote0 3 v] [] rfl rfl (fun b => ?_) (fun b => ?_) rfl (fun b => .inl rfl)
 ·exact countV_ok E pa pv (agB h v) (sayV b) [vote0 2 v] 3 v (.inr rfl) h2 (by simp) (by simp)
 ·refine Does.post (Does.frame (R := [cel b [SV.nil.v] 124, slc tWd true SV.nil []]) (arule5_ok E pa pv (agB h v) [vote0 2 v, vote0 3 v] v (sayV b) rfl h1 (vots2 v) rfl)) (fun F => Ent.refl _) ?_
  rintro r _ ⟨_, ⟨hr, rfl⟩, rfl⟩
  exact ⟨_, ⟨SV.nil, hr, rfl⟩, fun F => Ent.refl _⟩
end
section
variable (E : World) (p pa pv : Nat) (Sl Sw : SV) (log wants : List Ky) (w : Wd) (A A2 : Ag) (l l1 : List Wd) (o : List Wd)
theorem ctakeF_ok (hk : w.kind ≠ 4) (hl : log.length < 64) (hol : o.length ≤ 1000) (htake : Does Tryz.prog E 83 [.pointer (some ⟨pa, 0, none⟩), .agg (wdV w).toArray] [agC pa A pv .nilFunc, votA pv l] fun r L => ∃ S : SV, r = S.v ∧ L = [agC pa A2 pv .nilFunc, slc tWd true S o, votA pv l1]) (hd : A2.done = false) :
 Does Tryz.prog E 25 [.pointer (some ⟨p, 0, none⟩), .agg (tlV (log.length, w)).toArray] [chC p true (.pointer (some ⟨pa, 0, none⟩)) Sl.v Sw.v, slc tS true Sl log, agC pa A pv .nilFunc, votA pv l] fun r L => ∃ T : SV, r = T.v ∧ L = [chC p true (.pointer (some ⟨pa, 0, none⟩)) Sl.v Sw.v, slc tS true Sl log, agC pa A2 pv .nilFunc, votA pv l1, slc tTa true T (o.map fun w => (log.length, w))] := by
 have hw := cwordF_ok E p pa pv Sl Sw log w A A2 l l1 o hl hol htake hd
 refine Does.of Tryz.func25 rfl Tryz.ntmps25 rfl rfl fun F => ?_
 refine J.norm ?_
 refine Sr ?_
 refine L_o rfl rfl rfl (O_box rfl fun b3 => ?_)
 refine Lq (Q_assign rfl) ?_
 refine Ln ?_
 refine J_seq ?_
 refine J_seq ?_
 refine DL [0,1,2,3,4,5,6,7,8,9,10,11,12,13,14,15,16,17] (.quiet 0 (.quiet 1 (.quiet 2 (.quiet 3 (.quiet 4 (.quiet 5 (.quiet 6 (.quiet 7 (.quiet 8 (.quiet 9 (.quiet 10 (.quiet 11 (.quiet 12 (.quiet 13 (.quiet 14 (.quiet 15 (.quiet 16 (.quiet 17 .done)))))))))))))))))) Tryz.mixed ?_
 refine Sq (Ent.refl _) rfl (Q_move rfl) ?_
 refine Sq (Ent.refl _) rfl ((Q_peql rfl rfl).as (v' := .bool false) rfl) ?_
 refine Sq (Ent.refl _) rfl (Q_move rfl) ?_
 refine Sq (Ent.refl _) rfl (Q_fa0 rfl) ?_
 refine Sq (Ent.refl _) rfl (Q_ld 0 rfl rfl rfl rfl) ?_
 refine Sq (Ent.refl _) rfl (Q_move rfl) ?_
 refine Sq (Ent.refl _) rfl (Q_nilCheck rfl) ?_
 refine Sq (Ent.refl _) rfl (Q_fa0 rfl) ?_
 refine Sq (Ent.refl _) rfl (Q_ld 1 rfl rfl rfl rfl) ?_
 refine Sq (Ent.refl _) rfl (Q_lenAt 2 rfl rfl) ?_
 refine Sq (Ent.refl _) rfl ((Q_neq rfl rfl).as (v' := .bool false) (congrArg Value.bool (decide_eq_false (by simp)))) ?_
 refine Sq (Ent.refl _) rfl (Q_pickF rfl rfl) ?_
 refine Sq (Ent.refl _) rfl (Q_move rfl) ?_
 refine Sq (Ent.refl _) rfl (Q_fa0 rfl) ?_
 refine Sq (Ent.refl _) rfl (Q_fa rfl rfl) ?_
 refine Sq (Ent.refl _) rfl (Q_ld 0 rfl rfl rfl rfl) ?_
 refine Sq (Ent.refl _) rfl ((Q_eql rfl rfl).as (v' := .bool false) (congrArg Value.bool (decide_eq_false hk))) ?_
 refine Sq (Ent.refl _) rfl (Q_pickF rfl rfl) ?_
 refine S_nil ?_
 refine seqQ_normal ?_
 refine J_condF rfl ?_
 refine J_skip ?_
 refine seqQ_normal ?_
 refine Sr ?_
 refine Lq (Q_move rfl) ?_
 refine Lq (Q_fa0 rfl) ?_
 refine Lq (Q_ldA 0 rfl rfl rfl) ?_
 refine L_o rfl rfl rfl (O_call [1,2,3,4] [0,5] hw rfl rfl ?_)
 rintro _ _ ⟨T, rfl, rfl⟩
 refine JL.norm ?_
 refine Lq (Q_assign rfl) ?_
 refine Ln ?_
 refine J_ret ?_
 exact retQ_ret _ _ (.cons (RV_tmp rfl) .nil) ⟨T, rfl, rfl⟩ (Ent.re [0,1,2,3,4,6] rfl)
theorem ctakeT_ok (v : Ky) (hk : w.kind ≠ 4) (hl : log.length < 63) (hol : o.length ≤ 1000) (hw : ∀ v ∈ wants, mayV v = true) (hwl : wants.length ≤ 8) (htake : Does Tryz.prog E 83 [.pointer (some ⟨pa, 0, none⟩), .agg (wdV w).toArray] [agC pa A pv .nilFunc, votA pv l] fun r L => ∃ S : SV, r = S.v ∧ L = [agC pa A2 pv .nilFunc, slc tWd true S o, votA pv l1]) (hd : A2.done = true) (hv : A2.dec = v) :
 Does Tryz.prog E 25 [.pointer (some ⟨p, 0, none⟩), .agg (tlV (log.length, w)).toArray] [chC p true (.pointer (some ⟨pa, 0, none⟩)) Sl.v Sw.v, slc tS true Sl log, agC pa A pv .nilFunc, votA pv l, slc tS true Sw wants] fun r L => ∃ (pa' pv' : Nat) (Tl Tw T : SV), r = T.v ∧ L = [chC p true (.pointer (some ⟨pa', 0, none⟩)) Tl.v Tw.v, slc tS true Tl (log ++ [v]), agC pa' (ag1 (log ++ [v]).length (ownOf (delW wants v))) pv' .nilFunc, votA pv' [], slc tS true Tw (delW wants v), slc tTa true T (o.map (fun w => (log.length, w)) ++ [((log ++ [v]).length, prop0 (ownOf (delW wants v)))])] := by
 have hwo := cwordT_ok E p pa pv Sl Sw log wants w A A2 l l1 o v hl hol hw hwl htake hd hv
 refine Does.of Tryz.func25 rfl Tryz.ntmps25 rfl rfl fun F => ?_
 refine J.norm ?_
 refine Sr ?_
 refine L_o rfl rfl rfl (O_box rfl fun b3 => ?_)
 refine Lq (Q_assign rfl) ?_
 refine Ln ?_
 refine J_seq ?_
 refine J_seq ?_
 refine DL [0,1,2,3,4,5,6,7,8,9,10,11,12,13,14,15,16,17] (.quiet 0 (.quiet 1 (.quiet 2 (.quiet 3 (.quiet 4 (.quiet 5 (.quiet 6 (.quiet 7 (.quiet 8 (.quiet 9 (.quiet 10 (.quiet 11 (.quiet 12 (.quiet 13 (.quiet 14 (.quiet 15 (.quiet 16 (.quiet 17 .done)))))))))))))))))) Tryz.mixed ?_
 refine Sq (Ent.refl _) rfl (Q_move rfl) ?_
 refine Sq (Ent.refl _) rfl ((Q_peql rfl rfl).as (v' := .bool false) rfl) ?_
 refine Sq (Ent.refl _) rfl (Q_move rfl) ?_
 refine Sq (Ent.refl _) rfl (Q_fa0 rfl) ?_
 refine Sq (Ent.refl _) rfl (Q_ld 0 rfl rfl rfl rfl) ?_
 refine Sq (Ent.refl _) rfl (Q_move rfl) ?_
 refine Sq (Ent.refl _) rfl (Q_nilCheck rfl) ?_
 refine Sq (Ent.refl _) rfl (Q_fa0 rfl) ?_
 refine Sq (Ent.refl _) rfl (Q_ld 1 rfl rfl rfl rfl) ?_
 refine Sq (Ent.refl _) rfl (Q_lenAt 2 rfl rfl) ?_
 refine Sq (Ent.refl _) rfl ((Q_neq rfl rfl).as (v' := .bool false) (congrArg Value.bool (decide_eq_false (by simp)))) ?_
 refine Sq (Ent.refl _) rfl (Q_pickF rfl rfl) ?_
 refine Sq (Ent.refl _) rfl (Q_move rfl) ?_
 refine Sq (Ent.refl _) rfl (Q_fa0 rfl) ?_
 refine Sq (Ent.refl _) rfl (Q_fa rfl rfl) ?_
 refine Sq (Ent.refl _) rfl (Q_ld 0 rfl rfl rfl rfl) ?_
 refine Sq (Ent.refl _) rfl ((Q_eql rfl rfl).as (v' := .bool false) (congrArg Value.bool (decide_eq_false hk))) ?_
 refine Sq (Ent.refl _) rfl (Q_pickF rfl rfl) ?_
 refine S_nil ?_
 refine seqQ_normal ?_
 refine J_condF rfl ?_
 refine J_skip ?_
 refine seqQ_normal ?_
 refine Sr ?_
 refine Lq (Q_move rfl) ?_
 refine Lq (Q_fa0 rfl) ?_
 refine Lq (Q_ldA 0 rfl rfl rfl) ?_
 refine L_o rfl rfl rfl (O_call [1,2,3,4,5] [0,6] hwo rfl rfl ?_)
 rintro _ _ ⟨pa', pv', Tl, Tw, T, rfl, rfl⟩
 refine JL.norm ?_
 refine Lq (Q_assign rfl) ?_
 refine Ln ?_
 refine J_ret ?_
 exact retQ_ret _ _ (.cons (RV_tmp rfl) .nil) ⟨pa', pv', Tl, Tw, T, rfl, rfl⟩ (Ent.re [0,1,2,3,4,5,7] rfl)
end
end Go.Proofs
/- One who follows: how it lies. -/
set_option autoImplicit false
namespace Go.Proofs
open Go.SL Go.Proofs.Bt
/-- A height's count: its map (and what lies in it), the first value that was told, was one? -/
structure Hg where
 m : Option (Nat × List (Ky × Int))
 first : Ky
 told : Bool
theorem str_beq (a b : List UInt8) : ((⟨a.toArray⟩ : ByteArray) == ⟨b.toArray⟩) = decide (a = b) := by
 show (a.toArray == b.toArray) = _
 by_cases h : a = b <;> simp [h]
def mT : MTy Ky Int := ⟨9, 3, .string, str, fun n => .int .i64 n, fun a b => by
 show some ((⟨a.toArray⟩ : ByteArray) == ⟨b.toArray⟩) = _
 rw [str_beq]
 by_cases h : a = b <;> simp [h], fun a => by
 show ((⟨a.toArray⟩ : ByteArray) == ⟨a.toArray⟩) = true
 rw [str_beq]; simp, .inr rfl⟩
instance : TyU Tryz.prog mT.kt mT.kd := inferInstanceAs (TyU Tryz.prog 9 .string)
instance : TyU Tryz.prog 73 (.map mT.kt mT.vt) := inferInstanceAs (TyU Tryz.prog 73 (.map 9 3))
instance : TyI Tryz.prog mT.vt 1 (.int .i64 0) 8 := inferInstanceAs (TyI Tryz.prog 3 1 (.int .i64 0) 8)
def hgV (g : Hg) : List Value := [.map (g.m.map (·.1)), str g.first, .bool g.told]
def foL (t : Int) (hd : Nat → Bool) (tl : Nat → Hg) : List Value := .int .i64 t :: ((List.range 512).map (fun i => Value.bool (hd i)) ++ (List.range 64).flatMap fun h => hgV (tl h))
theorem fm_len (f : Nat → List Value) (hf : ∀ i, (f i).length = 3) : ∀ n, ((List.range n).flatMap f).length = 3 * n
 | 0 => rfl
 | n + 1 => by rw [List.range_succ, List.flatMap_append, List.length_append, fm_len f hf n]; simp [hf]; omega
theorem fm_get (f : Nat → List Value) (hf : ∀ i, (f i).length = 3) (h k : Nat) (hk : k < 3) : ∀ n, h < n → ((List.range n).flatMap f)[3 * h + k]? = (f h)[k]?
 | 0, hh => by omega
 | n + 1, hh => by
  have hl := fm_len f hf n
  rw [List.range_succ, List.flatMap_append]
  by_cases e : h < n
  ·rw [List.getElem?_append_left (by omega)]
   exact fm_get f hf h k hk n e
  ·have e2 : h = n := by omega
   subst e2
   rw [List.getElem?_append_right (by omega), hl, show 3 * h + k - 3 * h = k by omega]
   simp
section
variable (t : Int) (hd : Nat → Bool) (tl : Nat → Hg)
theorem fo_len : (foL t hd tl).length = 705 := by
 have := fm_len (fun h => hgV (tl h)) (fun _ => rfl) 64
 simp only [foL, List.length_cons, List.length_append, List.length_map, List.length_range, this]
theorem fo_0 : (foL t hd tl)[0]? = some (.int .i64 t) := rfl
theorem fo_hd (j : Nat) (hj : j < 512) : (foL t hd tl)[1 + j]? = some (.bool (hd j)) := by
 unfold foL
 rw [Nat.add_comm, List.getElem?_cons_succ, List.getElem?_append_left (by simpa using hj)]
 simp [hj]
theorem fo_tl (h k : Nat) (hh : h < 64) (hk : k < 3) : (foL t hd tl)[513 + 3 * h + k]? = (hgV (tl h))[k]? := by
 unfold foL
 rw [show 513 + 3 * h + k = (512 + (3 * h + k)) + 1 by omega, List.getElem?_cons_succ, List.getElem?_append_right (by simp only [List.length_map, List.length_range]; omega)]
 rw [show 512 + (3 * h + k) - ((List.range 512).map fun i => Value.bool (hd i)).length = 3 * h + k by simp]
 exact fm_get (fun h => hgV (tl h)) (fun _ => rfl) h k hk 64 hh
theorem fo_ext {cs : List Value} (hl : cs.length = 705) (h0 : cs[0]? = some (.int .i64 t)) (h1 : ∀ j, j < 512 → cs[1 + j]? = some (.bool (hd j))) (h2 : ∀ h k, h < 64 → k < 3 → cs[513 + 3 * h + k]? = (hgV (tl h))[k]?) : cs = foL t hd tl := by
 apply List.ext_getElem?
 intro i
 by_cases e0 : i = 0
 ·subst e0; rw [h0]; rfl
 by_cases e1 : i < 513
 ·obtain ⟨j, rfl⟩ : ∃ j, i = 1 + j := ⟨i - 1, by omega⟩
  rw [h1 j (by omega), fo_hd t hd tl j (by omega)]
 by_cases e2 : i < 705
 ·obtain ⟨h, k, hk, rfl⟩ : ∃ h k, k < 3 ∧ i = 513 + 3 * h + k := ⟨(i - 513) / 3, (i - 513) % 3, Nat.mod_lt _ (by decide), by omega⟩
  rw [h2 h k (by omega) hk, fo_tl t hd tl h k (by omega) hk]
 ·rw [List.getElem?_eq_none (by omega), List.getElem?_eq_none (by rw [fo_len]; omega)]
def updB (hd : Nat → Bool) (j : Nat) : Nat → Bool := fun i => if i = j then true else hd i
def updG (tl : Nat → Hg) (h : Nat) (g : Hg) : Nat → Hg := fun i => if i = h then g else tl i
theorem fo_setHd (j : Nat) (hj : j < 512) : (foL t hd tl).set (1 + j) (.bool true) = foL t (updB hd j) tl := by
 have hl := fo_len t hd tl
 refine fo_ext _ _ _ (by rw [List.length_set, hl]) ?_ ?_ ?_
 ·rw [List.getElem?_set_ne (by omega)]; rfl
 ·intro i hi
  by_cases e : i = j
  ·subst e
   rw [List.getElem?_set_self (by omega)]; simp [updB]
  ·rw [List.getElem?_set_ne (by omega), fo_hd t hd tl i hi]; simp [updB, e]
 ·intro h k hh hk
  rw [List.getElem?_set_ne (by omega), fo_tl t hd tl h k hh hk]
theorem fo_setTl (h k : Nat) (v : Value) (g : Hg) (hh : h < 64) (hk : k < 3) (hg : (hgV (tl h)).set k v = hgV g) : (foL t hd tl).set (513 + 3 * h + k) v = foL t hd (updG tl h g) := by
 have hl := fo_len t hd tl
 refine fo_ext _ _ _ (by rw [List.length_set, hl]) ?_ ?_ ?_
 ·rw [List.getElem?_set_ne (by omega)]; rfl
 ·intro i hi
  rw [List.getElem?_set_ne (by omega), fo_hd t hd tl i hi]
 ·intro h' k' hh' hk'
  by_cases e : h' = h
  ·subst e
   have e3 : (updG tl h' g) h' = g := by simp [updG]
   rw [e3, ← hg]
   by_cases ek : k' = k
   ·subst ek
    rw [List.getElem?_set_self (by omega), List.getElem?_set_self (by exact hk')]
   ·rw [List.getElem?_set_ne (by omega), List.getElem?_set_ne (by omega), fo_tl t hd tl h' k' hh' hk']
  ·rw [List.getElem?_set_ne (by omega), fo_tl t hd tl h' k' hh' hk']
   simp [updG, e]
end
def mapC (g : Hg) : HProp := match g.m with
 | none => stars []
 | some (r, l) => mpC mT r l
def fol0 (t : Int) : List Value := foL t (fun _ => false) (fun _ => ⟨none, [], false⟩)
theorem fol_fill (t : Int) : FillL [(0, 1), (1, 512), (513, 192)] bz78 [(0, .int .i64 t)] (fol0 t) := ⟨by kernel_rfl⟩
end Go.Proofs
/- One who follows: an answer counted. -/
set_option autoImplicit false
namespace Go.SL
theorem Q_mapnil {P : Program} {E : World} {n : Nat} {ρ : Env} {L : List HProp} {dst : Option Tmp} {ty : TypeId} {pos : String} {after : Array Edge} {g : Option (Nat × Bool)} {t t' k e : Nat} {x y : Operand} {r : Option Nat} [u : TyU P t (.map k e)] (hx : ρ.ev x = some (.map r)) (hy : ρ.ev y = some (.map none)) : QOp P E n ⟨dst, .binOp .eql t x y t', ty, pos, after, g⟩ ρ L (.bool r.isNone) := fun c w ha _ =>
 run_binOp c w ha hx hy (by simp [eqGuard]) (run_eql_map_nil w t k e r u.h)
end Go.SL
namespace Go.Proofs
open Go.SL Go.Proofs.Bt
def mapG (g : Hg) : List (Ky × Int) := match g.m with
 | none => []
 | some (_, l) => l
def cntG (g : Hg) (x : Ky) : Int := (mget (mapG g) x).getD 0
/-- A value told once more; r: its map. -/
def addG (g : Hg) (r : Nat) (x : Ky) (need : Int) : Hg := ⟨some (r, mset (mapG g) x (cntG g x + 1)), if g.told = false ∧ need ≤ cntG g x + 1 then x else g.first, g.told || decide (need ≤ cntG g x + 1)⟩
section
variable (t : Int) (hd : Nat → Bool) (tl : Nat → Hg)
theorem updG_at (h : Nat) (g : Hg) : updG tl h g h = g := by simp [updG]
theorem updG_upd (h : Nat) (g g' : Hg) : updG (updG tl h g) h g' = updG tl h g' := by
 funext i; unfold updG; split <;> rfl
theorem updG_self (h : Nat) (g : Hg) (e : tl h = g) : updG tl h g = tl := by
 funext i; unfold updG; split
 ·rename_i e2; rw [e2, e]
 ·rfl
theorem fo_tlU (h k : Nat) (g : Hg) (hh : h < 64) (hk : k < 3) : (foL t hd (updG tl h g))[513 + 3 * h + k]? = (hgV g)[k]? := by
 rw [fo_tl t hd _ h k hh hk, updG_at]
theorem fo_setU (h k : Nat) (v : Value) (g g' : Hg) (hh : h < 64) (hk : k < 3) (hg : (hgV g).set k v = hgV g') : SetV (foL t hd (updG tl h g)) (513 + 3 * h + k) v (foL t hd (updG tl h g')) :=
 ⟨by rw [fo_setTl t hd _ h k v g' hh hk (by rw [updG_at]; exact hg), updG_upd], by rw [fo_len]; omega⟩
theorem fo_congr (h : Nat) (g g' : Hg) (e : hgV g = hgV g') : foL t hd (updG tl h g) = foL t hd (updG tl h g') := by
 unfold foL
 congr 2
 have : (fun h' => hgV (updG tl h g h')) = fun h' => hgV (updG tl h g' h') := by
  funext i
  unfold updG
  split
  ·exact e
  ·rfl
 rw [this]
end
attribute [local irreducible] J JL QOp JOp seqQ blockQ loopQ retQ slc cel hex star pur stars Does RV Ent pAt scopeQ
attribute [local irreducible] foL
theorem fadd_ok (E : World) (p h : Nat) (t : Int) (hd : Nat → Bool) (tl : Nat → Hg) (x : Ky) (need : Int) (hh : h < 64) (hc : 0 ≤ cntG (tl h) x ∧ cntG (tl h) x ≤ 1000000) :
 Does Tryz.prog E 34 [.pointer (some ⟨p, 513 + 3 * h, none⟩), str x, .int .i64 need] [cel p (foL t hd tl) 78, mapC (tl h)] fun r L => ∃ m : Nat, r = .tuple #[] ∧ L = [cel p (foL t hd (updG tl h (addG (tl h) m x need))) 78, mapC (addG (tl h) m x need)] := by
 rcases hg : tl h with ⟨mm, first, told⟩
 have hself := updG_self tl h _ hg
 rw [← hself]
 refine Does.of Tryz.func34 rfl Tryz.ntmps34 rfl rfl fun F => ?_
 refine J.norm ?_
 refine J_seq ?_
 refine J.mid (fun ρ' L' => ∃ (r : Nat) (l : List (Ky × Int)), l = mapG ⟨mm, first, told⟩ ∧ envSub [(0, .pointer (some ⟨p, 513 + 3 * h, none⟩)), (1, str x), (2, .int .i64 need)] ρ' ∧ Ent L' [cel p (foL t hd (updG tl h ⟨some (r, l), first, told⟩)) 78, mpC mT r l, F]) ?_ ?_
 ·cases mm with
  | none =>
   refine Sr ?_
   refine Lq (Q_move rfl) ?_
   refine Lq (Q_nilCheck rfl) ?_
   refine Lq (Q_fa rfl rfl) ?_
   refine Lq (Q_ld 0 rfl rfl rfl (fo_tlU t hd tl h 0 ⟨none, first, told⟩ hh (by decide))) ?_
   refine Lq ((Q_mapnil rfl rfl).as (v' := .bool true) rfl) ?_
   refine Ln ?_
   refine J_condT rfl ?_
   refine J_region ?_
   refine Lq (Q_move rfl) ?_
   refine L_o rfl rfl rfl (O_mnew mT fun r => ?_)
   refine JL.norm ?_
   refine Lq (Q_nilCheck rfl) ?_
   refine Lq (Q_fa rfl rfl) ?_
   refine L_s rfl rfl (O_st1 1 rfl rfl rfl rfl rfl (hcs := fo_setU t hd tl h 0 (.map (some r)) ⟨none, first, told⟩ ⟨some (r, []), first, told⟩ hh (by decide) rfl) ?_)
   refine JL.norm ?_
   refine JL_nil ?_
   exact ⟨rfl, r, [], rfl, ⟨rfl, rfl, rfl, trivial⟩, Ent.re [1,0,3] rfl⟩
  | some rl =>
   obtain ⟨r, l⟩ := rl
   refine Sr ?_
   refine Lq (Q_move rfl) ?_
   refine Lq (Q_nilCheck rfl) ?_
   refine Lq (Q_fa rfl rfl) ?_
   refine Lq (Q_ld 0 rfl rfl rfl (fo_tlU t hd tl h 0 ⟨some (r, l), first, told⟩ hh (by decide))) ?_
   refine Lq ((Q_mapnil rfl rfl).as (v' := .bool false) rfl) ?_
   refine Ln ?_
   refine J_condF rfl ?_
   refine J_skip ?_
   exact ⟨rfl, r, l, rfl, ⟨rfl, rfl, rfl, trivial⟩, Ent.refl _⟩
 rintro ρ1 L1 ⟨r, l, rfl, hsub, hent⟩
 refine J.sub hsub ?_
 refine J.ent hent ?_
 clear hsub hent
 have hcnt : cntG ⟨mm, first, told⟩ x = (mget (mapG ⟨mm, first, told⟩) x).getD 0 := rfl
 rw [hg] at hc
 have hadd : addG ⟨mm, first, told⟩ r x need = ⟨some (r, mset (mapG ⟨mm, first, told⟩) x (cntG ⟨mm, first, told⟩ x + 1)), if told = false ∧ need ≤ cntG ⟨mm, first, told⟩ x + 1 then x else first, told || decide (need ≤ cntG ⟨mm, first, told⟩ x + 1)⟩ := rfl
 have hmc : ∀ g : Hg, ∀ l, g.m = some (r, l) → mapC g = mpC mT r l := fun g l e => by unfold mapC; rw [e]
 have hpost : ∀ (g' : Hg) (l' : List (Ky × Int)), g' = addG ⟨mm, first, told⟩ r x need → l' = mset (mapG ⟨mm, first, told⟩) x (cntG ⟨mm, first, told⟩ x + 1) → ∃ m : Nat, (Value.tuple #[]) = .tuple #[] ∧ [cel p (foL t hd (updG tl h g')) 78, mpC mT r l'] = [cel p (foL t hd (updG (updG tl h ⟨mm, first, told⟩) h (addG ⟨mm, first, told⟩ m x need))) 78, mapC (addG ⟨mm, first, told⟩ m x need)] := by
  rintro g' l' rfl rfl
  exact ⟨r, rfl, by rw [updG_upd, hmc _ _ rfl]⟩
 generalize mapG ⟨mm, first, told⟩ = l at *
 generalize cntG ⟨mm, first, told⟩ x = c at *
 have hl1 : (((mget l x).map mT.venc).getD (.int .i64 0)) = .int .i64 c := by
  rw [hcnt]; cases mget l x <;> rfl
 have hl2 : (((mget (mset l x (c + 1)) x).map mT.venc).getD (.int .i64 0)) = .int .i64 (c + 1) := by
  rw [mget_mset, if_pos rfl]; rfl
 refine Sr ?_
 refine Lq (Q_move rfl) ?_
 refine Lq (Q_nilCheck rfl) ?_
 refine Lq (Q_fa rfl rfl) ?_
 refine Lq (Q_ld 0 rfl rfl rfl (fo_tlU t hd tl h 0 ⟨some (r, l), first, told⟩ hh (by decide))) ?_
 refine Lq (Q_move rfl) ?_
 refine Lq ((Q_mget (M := mT) 1 x rfl rfl rfl).as hl1) ?_
 refine Lq (Q_add (r := c + 1) rfl rfl (IntWalk.i64_in _ (by omega))) ?_
 refine L_s rfl rfl (O_mset (M := mT) 1 x (c + 1) rfl rfl rfl rfl ?_)
 refine JL.norm ?_
 refine Ln ?_
 refine J_seq ?_
 cases told with
 | true =>
  obtain ⟨m, _, he⟩ := hpost ⟨some (r, mset l x (c + 1)), first, true⟩ _ (by rw [hadd]; simp) rfl
  have hco := fo_congr t hd tl h ⟨some (r, l), first, true⟩ ⟨some (r, mset l x (c + 1)), first, true⟩ rfl
  refine J_region ?_
  refine Lq (Q_move rfl) ?_
  refine Lq (Q_nilCheck rfl) ?_
  refine Lq (Q_fa rfl rfl) ?_
  refine Lq (Q_ld 0 rfl rfl rfl (fo_tlU t hd tl h 2 ⟨some (r, l), first, true⟩ hh (by decide))) ?_
  refine Lq ((Q_not rfl).as (v' := .bool false) rfl) ?_
  refine Lq (Q_move rfl) ?_
  refine L_n rfl rfl rfl ?_
  refine L_n rfl rfl rfl ?_
  refine L_n rfl rfl rfl ?_
  refine L_n rfl rfl rfl ?_
  refine L_n rfl rfl rfl ?_
  refine L_n rfl rfl rfl ?_
  refine L_n rfl rfl rfl ?_
  refine L_n rfl rfl rfl ?_
  refine Lq (Q_pickF rfl rfl) ?_
  refine Ln ?_
  refine J_condF rfl ?_
  refine J_skip ?_
  rw [hco]
  exact retQ_normal [] _ .nil ⟨m, rfl, he⟩ (Ent.refl _)
 | false =>
  by_cases hn : need ≤ c + 1
  ·obtain ⟨m, _, he⟩ := hpost ⟨some (r, mset l x (c + 1)), x, true⟩ _ (by rw [hadd]; simp [hn]) rfl
   have hco := fo_congr t hd tl h ⟨some (r, l), x, true⟩ ⟨some (r, mset l x (c + 1)), x, true⟩ rfl
   refine J_region ?_
   refine Lq (Q_move rfl) ?_
   refine Lq (Q_nilCheck rfl) ?_
   refine Lq (Q_fa rfl rfl) ?_
   refine Lq (Q_ld 0 rfl rfl rfl (fo_tlU t hd tl h 2 ⟨some (r, l), first, false⟩ hh (by decide))) ?_
   refine Lq ((Q_not rfl).as (v' := .bool true) rfl) ?_
   refine Lq (Q_move rfl) ?_
   refine Lq (Q_move rfl) ?_
   refine Lq (Q_nilCheck rfl) ?_
   refine Lq (Q_fa rfl rfl) ?_
   refine Lq (Q_ld 0 rfl rfl rfl (fo_tlU t hd tl h 0 ⟨some (r, l), first, false⟩ hh (by decide))) ?_
   refine Lq (Q_move rfl) ?_
   refine Lq ((Q_mget (M := mT) 1 x rfl rfl rfl).as hl2) ?_
   refine Lq (Q_move rfl) ?_
   refine Lq ((Q_geq rfl rfl).as (v' := .bool true) (congrArg Value.bool (decide_eq_true hn))) ?_
   refine Lq (Q_pickT rfl rfl) ?_
   refine Ln ?_
   refine J_condT rfl ?_
   refine J_region ?_
   refine Lq (Q_move rfl) ?_
   refine Lq (Q_move rfl) ?_
   refine Lq (Q_move rfl) ?_
   refine Lq (Q_nilCheck rfl) ?_
   refine Lq (Q_fa rfl rfl) ?_
   refine L_s rfl rfl (O_st1 0 rfl rfl rfl rfl rfl (hcs := fo_setU t hd tl h 1 (str x) ⟨some (r, l), first, false⟩ ⟨some (r, l), x, false⟩ hh (by decide) rfl) ?_)
   refine JL.norm ?_
   refine Lq (Q_nilCheck rfl) ?_
   refine Lq (Q_fa rfl rfl) ?_
   refine L_s rfl rfl (O_st1 0 rfl rfl rfl rfl rfl (hcs := fo_setU t hd tl h 2 (.bool true) ⟨some (r, l), x, false⟩ ⟨some (r, l), x, true⟩ hh (by decide) rfl) ?_)
   refine JL.norm ?_
   refine JL_nil ?_
   rw [hco]
   exact retQ_normal [] _ .nil ⟨m, rfl, he⟩ (Ent.refl _)
  ·obtain ⟨m, _, he⟩ := hpost ⟨some (r, mset l x (c + 1)), first, false⟩ _ (by rw [hadd]; simp [hn]) rfl
   have hco := fo_congr t hd tl h ⟨some (r, l), first, false⟩ ⟨some (r, mset l x (c + 1)), first, false⟩ rfl
   refine J_region ?_
   refine Lq (Q_move rfl) ?_
   refine Lq (Q_nilCheck rfl) ?_
   refine Lq (Q_fa rfl rfl) ?_
   refine Lq (Q_ld 0 rfl rfl rfl (fo_tlU t hd tl h 2 ⟨some (r, l), first, false⟩ hh (by decide))) ?_
   refine Lq ((Q_not rfl).as (v' := .bool true) rfl) ?_
   refine Lq (Q_move rfl) ?_
   refine Lq (Q_move rfl) ?_
   refine Lq (Q_nilCheck rfl) ?_
   refine Lq (Q_fa rfl rfl) ?_
   refine Lq (Q_ld 0 rfl rfl rfl (fo_tlU t hd tl h 0 ⟨some (r, l), first, false⟩ hh (by decide))) ?_
   refine Lq (Q_move rfl) ?_
   refine Lq ((Q_mget (M := mT) 1 x rfl rfl rfl).as hl2) ?_
   refine Lq (Q_move rfl) ?_
   refine Lq ((Q_geq rfl rfl).as (v' := .bool false) (congrArg Value.bool (decide_eq_false hn))) ?_
   refine Lq (Q_pickT rfl rfl) ?_
   refine Ln ?_
   refine J_condF rfl ?_
   refine J_skip ?_
   rw [hco]
   exact retQ_normal [] _ .nil ⟨m, rfl, he⟩ (Ent.refl _)
end Go.Proofs
