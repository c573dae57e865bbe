/- The document's write into the slots. -/
import Derived.Test.YtjpkeibhimimpaaRef37e
set_option autoImplicit false
namespace Go.Proofs
open Go.SL
attribute [local irreducible] J JL QOp JOp seqQ blockQ loopQ retQ slc cel hex star pur stars Does RV Ent pAt
theorem loadN_lt (a b : List UInt8) : loadN a b < 2 ^ 32 := by
  have h1 := nw_lt a 1
  have h2 := nw_lt b 1
  unfold loadN
  split
  · exact h2
  · split
    · exact h1
    · decide
theorem rwrite_ok (E : World) (a b body : List UInt8) (upto : Int) (ha : a.length ≤ 100000) (hb : b.length ≤ 100000) : Does Try.prog E 20 [.agg #[str a, str b], str body, .int .i64 upto] [] fun v L => v = .tuple #[.agg #[str (doW a b body upto).1, str (doW a b body upto).2.1], .int .i64 (doW a b body upto).2.2] ∧ L = [] := by
  have hld := rload_ok E a b ha hb
  have hf := rfind_ok E a b ha hb
  have hg := loadN_lt a b
  refine Does.of Try.func20 rfl Try.ntmps20 rfl rfl fun F => ?_
  refine J.norm ?_
  repeat first
    | refine J_seq ?_
    | refine seqQ_normal ?_
    | refine J_condT rfl ?_
    | refine J_condF rfl ?_
    | refine J_block ?_
    | refine blockQ_normal ?_
    | refine J_exit ?_
    | refine seqQ_exit ?_
    | refine blockQ_hit ?_
    | refine blockQ_miss rfl ?_
    | refine J_skip ?_
    | refine J_ret ?_
    | refine seqQ_ret ?_
    | refine blockQ_ret ?_
    | refine loopQ_exit ?_
    | refine loopQ_ret ?_
    | refine J_label ?_
  refine J_region ?_
  refine L_o rfl rfl rfl (O_box rfl fun b3 => ?_)
  refine L_o rfl rfl rfl (O_alloc fun b6 => ?_)
  refine L_q (Q_assign rfl) rfl rfl rfl ?_
  refine JL_nil ?_
  repeat first
    | refine J_seq ?_
    | refine seqQ_normal ?_
    | refine J_condT rfl ?_
    | refine J_condF rfl ?_
    | refine J_block ?_
    | refine blockQ_normal ?_
    | refine J_exit ?_
    | refine seqQ_exit ?_
    | refine blockQ_hit ?_
    | refine blockQ_miss rfl ?_
    | refine J_skip ?_
    | refine J_ret ?_
    | refine seqQ_ret ?_
    | refine blockQ_ret ?_
    | refine loopQ_exit ?_
    | refine loopQ_ret ?_
    | refine J_label ?_
  repeat first
    | refine J_seq ?_
    | refine seqQ_normal ?_
    | refine J_condT rfl ?_
    | refine J_condF rfl ?_
    | refine J_block ?_
    | refine blockQ_normal ?_
    | refine J_exit ?_
    | refine seqQ_exit ?_
    | refine blockQ_hit ?_
    | refine blockQ_miss rfl ?_
    | refine J_skip ?_
    | refine J_ret ?_
    | refine seqQ_ret ?_
    | refine blockQ_ret ?_
    | refine loopQ_exit ?_
    | refine loopQ_ret ?_
    | refine J_label ?_
  refine J_region ?_
  refine L_q (Q_move rfl) rfl rfl rfl ?_
  refine L_q (Q_slen rfl) rfl rfl rfl ?_
  refine L_q (Q_gtr rfl rfl) rfl rfl rfl ?_
  refine JL_nil ?_
  repeat first
    | refine J_seq ?_
    | refine seqQ_normal ?_
    | refine J_condT rfl ?_
    | refine J_condF rfl ?_
    | refine J_block ?_
    | refine blockQ_normal ?_
    | refine J_exit ?_
    | refine seqQ_exit ?_
    | refine blockQ_hit ?_
    | refine blockQ_miss rfl ?_
    | refine J_skip ?_
    | refine J_ret ?_
    | refine seqQ_ret ?_
    | refine blockQ_ret ?_
    | refine loopQ_exit ?_
    | refine loopQ_ret ?_
    | refine J_label ?_
  refine J_condD rfl (fun h0 => ?_) (fun h0 => ?_)
  · have hdo : doW a b body upto = (a, b, 2) := by unfold doW; rw [if_pos (by omega)]
    repeat first
      | refine J_seq ?_
      | refine seqQ_normal ?_
      | refine J_condT rfl ?_
      | refine J_condF rfl ?_
      | refine J_block ?_
      | refine blockQ_normal ?_
      | refine J_exit ?_
      | refine seqQ_exit ?_
      | refine blockQ_hit ?_
      | refine blockQ_miss rfl ?_
      | refine J_skip ?_
      | refine J_ret ?_
      | refine seqQ_ret ?_
      | refine blockQ_ret ?_
      | refine loopQ_exit ?_
      | refine loopQ_ret ?_
      | refine J_label ?_
    refine J_region ?_
    first
      | refine L_q (Q_ldA 0 rfl rfl rfl) rfl rfl rfl ?_
      | refine L_q (Q_ldA 1 rfl rfl rfl) rfl rfl rfl ?_
      | refine L_q (Q_ldA 2 rfl rfl rfl) rfl rfl rfl ?_
      | refine L_q (Q_ldA 3 rfl rfl rfl) rfl rfl rfl ?_
      | refine L_q (Q_ldA 4 rfl rfl rfl) rfl rfl rfl ?_
    first
      | refine L_s rfl rfl (O_stW 0 rfl rfl rfl rfl ?_)
      | refine L_s rfl rfl (O_stW 1 rfl rfl rfl rfl ?_)
      | refine L_s rfl rfl (O_stW 2 rfl rfl rfl rfl ?_)
      | refine L_s rfl rfl (O_stW 3 rfl rfl rfl rfl ?_)
      | refine L_s rfl rfl (O_stW 4 rfl rfl rfl rfl ?_)
    refine JL.norm ?_
    refine L_q (Q_assign rfl) rfl rfl rfl ?_
    refine JL_nil ?_
    repeat first
      | refine J_seq ?_
      | refine seqQ_normal ?_
      | refine J_condT rfl ?_
      | refine J_condF rfl ?_
      | refine J_block ?_
      | refine blockQ_normal ?_
      | refine J_exit ?_
      | refine seqQ_exit ?_
      | refine blockQ_hit ?_
      | refine blockQ_miss rfl ?_
      | refine J_skip ?_
      | refine J_ret ?_
      | refine seqQ_ret ?_
      | refine blockQ_ret ?_
      | refine loopQ_exit ?_
      | refine loopQ_ret ?_
      | refine J_label ?_
    rw [hdo]
    exact retQ_ret _ [] (.cons (RV_cell 0 rfl rfl rfl rfl) (.cons (RV_tmp rfl) .nil)) ⟨rfl, rfl⟩ (Ent.re [2] rfl)
  · have hd0 : doW a b body upto = if told a b = 0 then (a, wrote a b body upto, 0) else (wrote a b body upto, b, 0) := by unfold doW; rw [if_neg (by omega)]
    obtain ⟨g, hgv⟩ : ∃ g : Nat, g = loadN a b := ⟨_, rfl⟩
    have hgg : (if told a b = 1 then nw b 1 else if told a b = 0 then nw a 1 else 0) = g := by rw [hgv]; rfl
    rw [← hgv] at hld hg
    have cg : Value.int .u32 ((g % 2 ^ IntKind.u32.bits : Nat) : Int) = .int .u32 (g : Int) := by rw [show IntKind.u32.bits = 32 from rfl, Nat.mod_eq_of_lt hg]
    repeat first
      | refine J_seq ?_
      | refine seqQ_normal ?_
      | refine J_condT rfl ?_
      | refine J_condF rfl ?_
      | refine J_block ?_
      | refine blockQ_normal ?_
      | refine J_exit ?_
      | refine seqQ_exit ?_
      | refine blockQ_hit ?_
      | refine blockQ_miss rfl ?_
      | refine J_skip ?_
      | refine J_ret ?_
      | refine seqQ_ret ?_
      | refine blockQ_ret ?_
      | refine loopQ_exit ?_
      | refine loopQ_ret ?_
      | refine J_label ?_
    refine J_region ?_
    first
      | refine L_q (Q_ldA 0 rfl rfl rfl) rfl rfl rfl ?_
      | refine L_q (Q_ldA 1 rfl rfl rfl) rfl rfl rfl ?_
      | refine L_q (Q_ldA 2 rfl rfl rfl) rfl rfl rfl ?_
      | refine L_q (Q_ldA 3 rfl rfl rfl) rfl rfl rfl ?_
      | refine L_q (Q_ldA 4 rfl rfl rfl) rfl rfl rfl ?_
    refine L_o rfl rfl rfl (O_call [] [0,1,2] hld rfl rfl ?_)
    rintro _ _ ⟨rfl, rfl⟩
    refine JL.norm ?_
    refine L_q (Q_move rfl) rfl rfl rfl ?_
    refine L_q (Q_extract (v := str (loadT a b)) rfl rfl) rfl rfl rfl ?_
    refine L_q (Q_extract (v := .int .i64 (g : Int)) rfl rfl) rfl rfl rfl ?_
    refine L_q (Q_assign rfl) rfl rfl rfl ?_
    refine L_q (Q_assign rfl) rfl rfl rfl ?_
    refine JL_nil ?_
    repeat first
      | refine J_seq ?_
      | refine seqQ_normal ?_
      | refine J_condT rfl ?_
      | refine J_condF rfl ?_
      | refine J_block ?_
      | refine blockQ_normal ?_
      | refine J_exit ?_
      | refine seqQ_exit ?_
      | refine blockQ_hit ?_
      | refine blockQ_miss rfl ?_
      | refine J_skip ?_
      | refine J_ret ?_
      | refine seqQ_ret ?_
      | refine blockQ_ret ?_
      | refine loopQ_exit ?_
      | refine loopQ_ret ?_
      | refine J_label ?_
    repeat first
      | refine J_seq ?_
      | refine seqQ_normal ?_
      | refine J_condT rfl ?_
      | refine J_condF rfl ?_
      | refine J_block ?_
      | refine blockQ_normal ?_
      | refine J_exit ?_
      | refine seqQ_exit ?_
      | refine blockQ_hit ?_
      | refine blockQ_miss rfl ?_
      | refine J_skip ?_
      | refine J_ret ?_
      | refine seqQ_ret ?_
      | refine blockQ_ret ?_
      | refine loopQ_exit ?_
      | refine loopQ_ret ?_
      | refine J_label ?_
    refine J_region ?_
    refine L_q (Q_move rfl) rfl rfl rfl ?_
    refine L_q ((Q_cvtN g rfl rfl).as cg) rfl rfl rfl ?_
    refine L_q (Q_addN g 1 rfl rfl rfl rfl) rfl rfl rfl ?_
    refine L_o rfl rfl rfl (O_call [] [0,1,2] (rfour_ok E ((g + 1) % 2 ^ 32)) rfl rfl ?_)
    rintro _ _ ⟨rfl, rfl⟩
    refine JL.norm ?_
    refine L_q (Q_move rfl) rfl rfl rfl ?_
    refine L_q (Q_slen rfl) rfl rfl rfl ?_
    refine L_q (Q_cvtN body.length rfl rfl) rfl rfl rfl ?_
    refine L_o rfl rfl rfl (O_call [] [0,1,2] (rfour_ok E (body.length % 2 ^ 32)) rfl rfl ?_)
    rintro _ _ ⟨rfl, rfl⟩
    refine JL.norm ?_
    refine L_q (Q_sadd rfl rfl (by simp [four])) rfl rfl rfl ?_
    refine L_q (Q_move rfl) rfl rfl rfl ?_
    refine L_q (Q_sadd rfl rfl (by simp [four]; omega)) rfl rfl rfl ?_
    refine L_q (Q_assign rfl) rfl rfl rfl ?_
    refine JL_nil ?_
    repeat first
      | refine J_seq ?_
      | refine seqQ_normal ?_
      | refine J_condT rfl ?_
      | refine J_condF rfl ?_
      | refine J_block ?_
      | refine blockQ_normal ?_
      | refine J_exit ?_
      | refine seqQ_exit ?_
      | refine blockQ_hit ?_
      | refine blockQ_miss rfl ?_
      | refine J_skip ?_
      | refine J_ret ?_
      | refine seqQ_ret ?_
      | refine blockQ_ret ?_
      | refine loopQ_exit ?_
      | refine loopQ_ret ?_
      | refine J_label ?_
    repeat first
      | refine J_seq ?_
      | refine seqQ_normal ?_
      | refine J_condT rfl ?_
      | refine J_condF rfl ?_
      | refine J_block ?_
      | refine blockQ_normal ?_
      | refine J_exit ?_
      | refine seqQ_exit ?_
      | refine blockQ_hit ?_
      | refine blockQ_miss rfl ?_
      | refine J_skip ?_
      | refine J_ret ?_
      | refine seqQ_ret ?_
      | refine blockQ_ret ?_
      | refine loopQ_exit ?_
      | refine loopQ_ret ?_
      | refine J_label ?_
    refine J_region ?_
    refine L_q (Q_move rfl) rfl rfl rfl ?_
    refine L_o rfl rfl rfl (O_call [] [0,1,2] (rsum_ok E _ (by simp [four]; omega)) rfl rfl ?_)
    rintro _ _ ⟨rfl, rfl⟩
    refine JL.norm ?_
    refine L_o rfl rfl rfl (O_call [] [0,1,2] (rfour_ok E _) rfl rfl ?_)
    rintro _ _ ⟨rfl, rfl⟩
    refine JL.norm ?_
    refine L_q (Q_move rfl) rfl rfl rfl ?_
    refine L_q (Q_sadd rfl rfl (by simp [four]; omega)) rfl rfl rfl ?_
    refine L_q (Q_assign rfl) rfl rfl rfl ?_
    refine JL_nil ?_
    repeat first
      | refine J_seq ?_
      | refine seqQ_normal ?_
      | refine J_condT rfl ?_
      | refine J_condF rfl ?_
      | refine J_block ?_
      | refine blockQ_normal ?_
      | refine J_exit ?_
      | refine seqQ_exit ?_
      | refine blockQ_hit ?_
      | refine blockQ_miss rfl ?_
      | refine J_skip ?_
      | refine J_ret ?_
      | refine seqQ_ret ?_
      | refine blockQ_ret ?_
      | refine loopQ_exit ?_
      | refine loopQ_ret ?_
      | refine J_label ?_
    have hwr : wrote a b body upto = if 0 ≤ upto ∧ upto < ((four (crc (four ((g + 1) % 2 ^ 32) ++ four (body.length % 2 ^ 32) ++ body)) ++ (four ((g + 1) % 2 ^ 32) ++ four (body.length % 2 ^ 32) ++ body)).length : Int) then (four (crc (four ((g + 1) % 2 ^ 32) ++ four (body.length % 2 ^ 32) ++ body)) ++ (four ((g + 1) % 2 ^ 32) ++ four (body.length % 2 ^ 32) ++ body)).take upto.toNat else four (crc (four ((g + 1) % 2 ^ 32) ++ four (body.length % 2 ^ 32) ++ body)) ++ (four ((g + 1) % 2 ^ 32) ++ four (body.length % 2 ^ 32) ++ body) := by simp only [wrote, hgg]
    generalize four (crc (four ((g + 1) % 2 ^ 32) ++ four (body.length % 2 ^ 32) ++ body)) ++ (four ((g + 1) % 2 ^ 32) ++ four (body.length % 2 ^ 32) ++ body) = u at hwr ⊢
    by_cases hu0 : 0 ≤ upto
    · by_cases hu1 : upto < (u.length : Int)
      · obtain ⟨m, rfl⟩ : ∃ m : Nat, upto = (m : Int) := ⟨upto.toNat, by omega⟩
        have hm : m ≤ u.length := by omega
        rw [if_pos ⟨hu0, hu1⟩, Int.toNat_natCast] at hwr
        repeat first
          | refine J_seq ?_
          | refine seqQ_normal ?_
          | refine J_condT rfl ?_
          | refine J_condF rfl ?_
          | refine J_block ?_
          | refine blockQ_normal ?_
          | refine J_exit ?_
          | refine seqQ_exit ?_
          | refine blockQ_hit ?_
          | refine blockQ_miss rfl ?_
          | refine J_skip ?_
          | refine J_ret ?_
          | refine seqQ_ret ?_
          | refine blockQ_ret ?_
          | refine loopQ_exit ?_
          | refine loopQ_ret ?_
          | refine J_label ?_
        refine J_region ?_
        refine L_q (Q_move rfl) rfl rfl rfl ?_
        refine L_q ((Q_geq rfl rfl).as (v' := .bool true) (congrArg Value.bool (decide_eq_true hu0))) rfl rfl rfl ?_
        refine L_q (Q_move rfl) rfl rfl rfl ?_
        refine L_q (Q_move rfl) rfl rfl rfl ?_
        refine L_q (Q_move rfl) rfl rfl rfl ?_
        refine L_q (Q_slen rfl) rfl rfl rfl ?_
        refine L_q ((Q_lss rfl rfl).as (v' := .bool true) (congrArg Value.bool (decide_eq_true hu1))) rfl rfl rfl ?_
        first
          | refine L_q (Q_pickT rfl rfl) rfl rfl rfl ?_
          | refine L_q (Q_pickF rfl rfl) rfl rfl rfl ?_
          | refine L_q (Q_pickB rfl rfl rfl) rfl rfl rfl ?_
        refine JL_nil ?_
        repeat first
          | refine J_seq ?_
          | refine seqQ_normal ?_
          | refine J_condT rfl ?_
          | refine J_condF rfl ?_
          | refine J_block ?_
          | refine blockQ_normal ?_
          | refine J_exit ?_
          | refine seqQ_exit ?_
          | refine blockQ_hit ?_
          | refine blockQ_miss rfl ?_
          | refine J_skip ?_
          | refine J_ret ?_
          | refine seqQ_ret ?_
          | refine blockQ_ret ?_
          | refine loopQ_exit ?_
          | refine loopQ_ret ?_
          | refine J_label ?_
        repeat first
          | refine J_seq ?_
          | refine seqQ_normal ?_
          | refine J_condT rfl ?_
          | refine J_condF rfl ?_
          | refine J_block ?_
          | refine blockQ_normal ?_
          | refine J_exit ?_
          | refine seqQ_exit ?_
          | refine blockQ_hit ?_
          | refine blockQ_miss rfl ?_
          | refine J_skip ?_
          | refine J_ret ?_
          | refine seqQ_ret ?_
          | refine blockQ_ret ?_
          | refine loopQ_exit ?_
          | refine loopQ_ret ?_
          | refine J_label ?_
        refine J_region ?_
        refine L_q (Q_move rfl) rfl rfl rfl ?_
        refine L_q (Q_move rfl) rfl rfl rfl ?_
        refine L_q (Q_ssH m rfl rfl rfl hm) rfl rfl rfl ?_
        refine L_q (Q_assign rfl) rfl rfl rfl ?_
        refine JL_nil ?_
        repeat first
          | refine J_seq ?_
          | refine seqQ_normal ?_
          | refine J_condT rfl ?_
          | refine J_condF rfl ?_
          | refine J_block ?_
          | refine blockQ_normal ?_
          | refine J_exit ?_
          | refine seqQ_exit ?_
          | refine blockQ_hit ?_
          | refine blockQ_miss rfl ?_
          | refine J_skip ?_
          | refine J_ret ?_
          | refine seqQ_ret ?_
          | refine blockQ_ret ?_
          | refine loopQ_exit ?_
          | refine loopQ_ret ?_
          | refine J_label ?_
        by_cases e : told a b = 0
        · have hdo : doW a b body (m : Int) = (a, (u.take m), 0) := by rw [hd0, if_pos e, hwr]
          have hf' := hf
          rw [e] at hf'
          repeat first
            | refine J_seq ?_
            | refine seqQ_normal ?_
            | refine J_condT rfl ?_
            | refine J_condF rfl ?_
            | refine J_block ?_
            | refine blockQ_normal ?_
            | refine J_exit ?_
            | refine seqQ_exit ?_
            | refine blockQ_hit ?_
            | refine blockQ_miss rfl ?_
            | refine J_skip ?_
            | refine J_ret ?_
            | refine seqQ_ret ?_
            | refine blockQ_ret ?_
            | refine loopQ_exit ?_
            | refine loopQ_ret ?_
            | refine J_label ?_
          refine J_region ?_
          first
            | refine L_q (Q_ldA 0 rfl rfl rfl) rfl rfl rfl ?_
            | refine L_q (Q_ldA 1 rfl rfl rfl) rfl rfl rfl ?_
            | refine L_q (Q_ldA 2 rfl rfl rfl) rfl rfl rfl ?_
            | refine L_q (Q_ldA 3 rfl rfl rfl) rfl rfl rfl ?_
            | refine L_q (Q_ldA 4 rfl rfl rfl) rfl rfl rfl ?_
          refine L_o rfl rfl rfl (O_call [] [0,1,2] hf' rfl rfl ?_)
          rintro _ _ ⟨rfl, rfl⟩
          refine JL.norm ?_
          refine L_q (Q_eql rfl rfl) rfl rfl rfl ?_
          refine JL_nil ?_
          repeat first
            | refine J_seq ?_
            | refine seqQ_normal ?_
            | refine J_condT rfl ?_
            | refine J_condF rfl ?_
            | refine J_block ?_
            | refine blockQ_normal ?_
            | refine J_exit ?_
            | refine seqQ_exit ?_
            | refine blockQ_hit ?_
            | refine blockQ_miss rfl ?_
            | refine J_skip ?_
            | refine J_ret ?_
            | refine seqQ_ret ?_
            | refine blockQ_ret ?_
            | refine loopQ_exit ?_
            | refine loopQ_ret ?_
            | refine J_label ?_
          repeat first
            | refine J_seq ?_
            | refine seqQ_normal ?_
            | refine J_condT rfl ?_
            | refine J_condF rfl ?_
            | refine J_block ?_
            | refine blockQ_normal ?_
            | refine J_exit ?_
            | refine seqQ_exit ?_
            | refine blockQ_hit ?_
            | refine blockQ_miss rfl ?_
            | refine J_skip ?_
            | refine J_ret ?_
            | refine seqQ_ret ?_
            | refine blockQ_ret ?_
            | refine loopQ_exit ?_
            | refine loopQ_ret ?_
            | refine J_label ?_
          refine J_region ?_
          refine L_q (Q_move rfl) rfl rfl rfl ?_
          first
            | refine L_q (Q_fa0 rfl) rfl rfl rfl ?_
            | refine L_q (Q_fa rfl rfl) rfl rfl rfl ?_
            | refine L_q (Q_pfa rfl) rfl rfl rfl ?_
          refine L_q (Q_ia (o' := 1) 1 rfl rfl rfl (by decide) (by decide)) rfl rfl rfl ?_
          first
            | refine L_s rfl rfl (O_st1 0 rfl rfl rfl rfl rfl ?_)
            | refine L_s rfl rfl (O_st1 1 rfl rfl rfl rfl rfl ?_)
            | refine L_s rfl rfl (O_st1 2 rfl rfl rfl rfl rfl ?_)
            | refine L_s rfl rfl (O_st1 3 rfl rfl rfl rfl rfl ?_)
            | refine L_s rfl rfl (O_st1 4 rfl rfl rfl rfl rfl ?_)
          refine JL.norm ?_
          refine JL_nil ?_
          repeat first
            | refine J_seq ?_
            | refine seqQ_normal ?_
            | refine J_condT rfl ?_
            | refine J_condF rfl ?_
            | refine J_block ?_
            | refine blockQ_normal ?_
            | refine J_exit ?_
            | refine seqQ_exit ?_
            | refine blockQ_hit ?_
            | refine blockQ_miss rfl ?_
            | refine J_skip ?_
            | refine J_ret ?_
            | refine seqQ_ret ?_
            | refine blockQ_ret ?_
            | refine loopQ_exit ?_
            | refine loopQ_ret ?_
            | refine J_label ?_
          repeat first
            | refine J_seq ?_
            | refine seqQ_normal ?_
            | refine J_condT rfl ?_
            | refine J_condF rfl ?_
            | refine J_block ?_
            | refine blockQ_normal ?_
            | refine J_exit ?_
            | refine seqQ_exit ?_
            | refine blockQ_hit ?_
            | refine blockQ_miss rfl ?_
            | refine J_skip ?_
            | refine J_ret ?_
            | refine seqQ_ret ?_
            | refine blockQ_ret ?_
            | refine loopQ_exit ?_
            | refine loopQ_ret ?_
            | refine J_label ?_
          refine J_region ?_
          first
            | refine L_q (Q_ldA 0 rfl rfl rfl) rfl rfl rfl ?_
            | refine L_q (Q_ldA 1 rfl rfl rfl) rfl rfl rfl ?_
            | refine L_q (Q_ldA 2 rfl rfl rfl) rfl rfl rfl ?_
            | refine L_q (Q_ldA 3 rfl rfl rfl) rfl rfl rfl ?_
            | refine L_q (Q_ldA 4 rfl rfl rfl) rfl rfl rfl ?_
          first
            | refine L_s rfl rfl (O_stW 0 rfl rfl rfl rfl ?_)
            | refine L_s rfl rfl (O_stW 1 rfl rfl rfl rfl ?_)
            | refine L_s rfl rfl (O_stW 2 rfl rfl rfl rfl ?_)
            | refine L_s rfl rfl (O_stW 3 rfl rfl rfl rfl ?_)
            | refine L_s rfl rfl (O_stW 4 rfl rfl rfl rfl ?_)
          refine JL.norm ?_
          refine L_q (Q_assign rfl) rfl rfl rfl ?_
          refine JL_nil ?_
          repeat first
            | refine J_seq ?_
            | refine seqQ_normal ?_
            | refine J_condT rfl ?_
            | refine J_condF rfl ?_
            | refine J_block ?_
            | refine blockQ_normal ?_
            | refine J_exit ?_
            | refine seqQ_exit ?_
            | refine blockQ_hit ?_
            | refine blockQ_miss rfl ?_
            | refine J_skip ?_
            | refine J_ret ?_
            | refine seqQ_ret ?_
            | refine blockQ_ret ?_
            | refine loopQ_exit ?_
            | refine loopQ_ret ?_
            | refine J_label ?_
          rw [hdo]
          exact retQ_ret _ [] (.cons (RV_cell 0 rfl rfl rfl rfl) (.cons (RV_tmp rfl) .nil)) ⟨rfl, rfl⟩ (Ent.re [2] rfl)
        · have hdo : doW a b body (m : Int) = ((u.take m), b, 0) := by rw [hd0, if_neg e, hwr]
          repeat first
            | refine J_seq ?_
            | refine seqQ_normal ?_
            | refine J_condT rfl ?_
            | refine J_condF rfl ?_
            | refine J_block ?_
            | refine blockQ_normal ?_
            | refine J_exit ?_
            | refine seqQ_exit ?_
            | refine blockQ_hit ?_
            | refine blockQ_miss rfl ?_
            | refine J_skip ?_
            | refine J_ret ?_
            | refine seqQ_ret ?_
            | refine blockQ_ret ?_
            | refine loopQ_exit ?_
            | refine loopQ_ret ?_
            | refine J_label ?_
          refine J_region ?_
          first
            | refine L_q (Q_ldA 0 rfl rfl rfl) rfl rfl rfl ?_
            | refine L_q (Q_ldA 1 rfl rfl rfl) rfl rfl rfl ?_
            | refine L_q (Q_ldA 2 rfl rfl rfl) rfl rfl rfl ?_
            | refine L_q (Q_ldA 3 rfl rfl rfl) rfl rfl rfl ?_
            | refine L_q (Q_ldA 4 rfl rfl rfl) rfl rfl rfl ?_
          refine L_o rfl rfl rfl (O_call [] [0,1,2] hf rfl rfl ?_)
          rintro _ _ ⟨rfl, rfl⟩
          refine JL.norm ?_
          refine L_q ((Q_eql rfl rfl).as (v' := .bool false) (congrArg Value.bool (decide_eq_false e))) rfl rfl rfl ?_
          refine JL_nil ?_
          repeat first
            | refine J_seq ?_
            | refine seqQ_normal ?_
            | refine J_condT rfl ?_
            | refine J_condF rfl ?_
            | refine J_block ?_
            | refine blockQ_normal ?_
            | refine J_exit ?_
            | refine seqQ_exit ?_
            | refine blockQ_hit ?_
            | refine blockQ_miss rfl ?_
            | refine J_skip ?_
            | refine J_ret ?_
            | refine seqQ_ret ?_
            | refine blockQ_ret ?_
            | refine loopQ_exit ?_
            | refine loopQ_ret ?_
            | refine J_label ?_
          repeat first
            | refine J_seq ?_
            | refine seqQ_normal ?_
            | refine J_condT rfl ?_
            | refine J_condF rfl ?_
            | refine J_block ?_
            | refine blockQ_normal ?_
            | refine J_exit ?_
            | refine seqQ_exit ?_
            | refine blockQ_hit ?_
            | refine blockQ_miss rfl ?_
            | refine J_skip ?_
            | refine J_ret ?_
            | refine seqQ_ret ?_
            | refine blockQ_ret ?_
            | refine loopQ_exit ?_
            | refine loopQ_ret ?_
            | refine J_label ?_
          refine J_region ?_
          refine L_q (Q_move rfl) rfl rfl rfl ?_
          first
            | refine L_q (Q_fa0 rfl) rfl rfl rfl ?_
            | refine L_q (Q_fa rfl rfl) rfl rfl rfl ?_
            | refine L_q (Q_pfa rfl) rfl rfl rfl ?_
          refine L_q (Q_ia (o' := 0) 0 rfl rfl rfl (by decide) (by decide)) rfl rfl rfl ?_
          first
            | refine L_s rfl rfl (O_st1 0 rfl rfl rfl rfl rfl ?_)
            | refine L_s rfl rfl (O_st1 1 rfl rfl rfl rfl rfl ?_)
            | refine L_s rfl rfl (O_st1 2 rfl rfl rfl rfl rfl ?_)
            | refine L_s rfl rfl (O_st1 3 rfl rfl rfl rfl rfl ?_)
            | refine L_s rfl rfl (O_st1 4 rfl rfl rfl rfl rfl ?_)
          refine JL.norm ?_
          refine JL_nil ?_
          repeat first
            | refine J_seq ?_
            | refine seqQ_normal ?_
            | refine J_condT rfl ?_
            | refine J_condF rfl ?_
            | refine J_block ?_
            | refine blockQ_normal ?_
            | refine J_exit ?_
            | refine seqQ_exit ?_
            | refine blockQ_hit ?_
            | refine blockQ_miss rfl ?_
            | refine J_skip ?_
            | refine J_ret ?_
            | refine seqQ_ret ?_
            | refine blockQ_ret ?_
            | refine loopQ_exit ?_
            | refine loopQ_ret ?_
            | refine J_label ?_
          repeat first
            | refine J_seq ?_
            | refine seqQ_normal ?_
            | refine J_condT rfl ?_
            | refine J_condF rfl ?_
            | refine J_block ?_
            | refine blockQ_normal ?_
            | refine J_exit ?_
            | refine seqQ_exit ?_
            | refine blockQ_hit ?_
            | refine blockQ_miss rfl ?_
            | refine J_skip ?_
            | refine J_ret ?_
            | refine seqQ_ret ?_
            | refine blockQ_ret ?_
            | refine loopQ_exit ?_
            | refine loopQ_ret ?_
            | refine J_label ?_
          refine J_region ?_
          first
            | refine L_q (Q_ldA 0 rfl rfl rfl) rfl rfl rfl ?_
            | refine L_q (Q_ldA 1 rfl rfl rfl) rfl rfl rfl ?_
            | refine L_q (Q_ldA 2 rfl rfl rfl) rfl rfl rfl ?_
            | refine L_q (Q_ldA 3 rfl rfl rfl) rfl rfl rfl ?_
            | refine L_q (Q_ldA 4 rfl rfl rfl) rfl rfl rfl ?_
          first
            | refine L_s rfl rfl (O_stW 0 rfl rfl rfl rfl ?_)
            | refine L_s rfl rfl (O_stW 1 rfl rfl rfl rfl ?_)
            | refine L_s rfl rfl (O_stW 2 rfl rfl rfl rfl ?_)
            | refine L_s rfl rfl (O_stW 3 rfl rfl rfl rfl ?_)
            | refine L_s rfl rfl (O_stW 4 rfl rfl rfl rfl ?_)
          refine JL.norm ?_
          refine L_q (Q_assign rfl) rfl rfl rfl ?_
          refine JL_nil ?_
          repeat first
            | refine J_seq ?_
            | refine seqQ_normal ?_
            | refine J_condT rfl ?_
            | refine J_condF rfl ?_
            | refine J_block ?_
            | refine blockQ_normal ?_
            | refine J_exit ?_
            | refine seqQ_exit ?_
            | refine blockQ_hit ?_
            | refine blockQ_miss rfl ?_
            | refine J_skip ?_
            | refine J_ret ?_
            | refine seqQ_ret ?_
            | refine blockQ_ret ?_
            | refine loopQ_exit ?_
            | refine loopQ_ret ?_
            | refine J_label ?_
          rw [hdo]
          exact retQ_ret _ [] (.cons (RV_cell 0 rfl rfl rfl rfl) (.cons (RV_tmp rfl) .nil)) ⟨rfl, rfl⟩ (Ent.re [2] rfl)
      · rw [if_neg (fun h => hu1 h.2)] at hwr
        repeat first
          | refine J_seq ?_
          | refine seqQ_normal ?_
          | refine J_condT rfl ?_
          | refine J_condF rfl ?_
          | refine J_block ?_
          | refine blockQ_normal ?_
          | refine J_exit ?_
          | refine seqQ_exit ?_
          | refine blockQ_hit ?_
          | refine blockQ_miss rfl ?_
          | refine J_skip ?_
          | refine J_ret ?_
          | refine seqQ_ret ?_
          | refine blockQ_ret ?_
          | refine loopQ_exit ?_
          | refine loopQ_ret ?_
          | refine J_label ?_
        refine J_region ?_
        refine L_q (Q_move rfl) rfl rfl rfl ?_
        refine L_q ((Q_geq rfl rfl).as (v' := .bool true) (congrArg Value.bool (decide_eq_true hu0))) rfl rfl rfl ?_
        refine L_q (Q_move rfl) rfl rfl rfl ?_
        refine L_q (Q_move rfl) rfl rfl rfl ?_
        refine L_q (Q_move rfl) rfl rfl rfl ?_
        refine L_q (Q_slen rfl) rfl rfl rfl ?_
        refine L_q ((Q_lss rfl rfl).as (v' := .bool false) (congrArg Value.bool (decide_eq_false hu1))) rfl rfl rfl ?_
        first
          | refine L_q (Q_pickT rfl rfl) rfl rfl rfl ?_
          | refine L_q (Q_pickF rfl rfl) rfl rfl rfl ?_
          | refine L_q (Q_pickB rfl rfl rfl) rfl rfl rfl ?_
        refine JL_nil ?_
        repeat first
          | refine J_seq ?_
          | refine seqQ_normal ?_
          | refine J_condT rfl ?_
          | refine J_condF rfl ?_
          | refine J_block ?_
          | refine blockQ_normal ?_
          | refine J_exit ?_
          | refine seqQ_exit ?_
          | refine blockQ_hit ?_
          | refine blockQ_miss rfl ?_
          | refine J_skip ?_
          | refine J_ret ?_
          | refine seqQ_ret ?_
          | refine blockQ_ret ?_
          | refine loopQ_exit ?_
          | refine loopQ_ret ?_
          | refine J_label ?_
        by_cases e : told a b = 0
        · have hdo : doW a b body upto = (a, u, 0) := by rw [hd0, if_pos e, hwr]
          have hf' := hf
          rw [e] at hf'
          repeat first
            | refine J_seq ?_
            | refine seqQ_normal ?_
            | refine J_condT rfl ?_
            | refine J_condF rfl ?_
            | refine J_block ?_
            | refine blockQ_normal ?_
            | refine J_exit ?_
            | refine seqQ_exit ?_
            | refine blockQ_hit ?_
            | refine blockQ_miss rfl ?_
            | refine J_skip ?_
            | refine J_ret ?_
            | refine seqQ_ret ?_
            | refine blockQ_ret ?_
            | refine loopQ_exit ?_
            | refine loopQ_ret ?_
            | refine J_label ?_
          refine J_region ?_
          first
            | refine L_q (Q_ldA 0 rfl rfl rfl) rfl rfl rfl ?_
            | refine L_q (Q_ldA 1 rfl rfl rfl) rfl rfl rfl ?_
            | refine L_q (Q_ldA 2 rfl rfl rfl) rfl rfl rfl ?_
            | refine L_q (Q_ldA 3 rfl rfl rfl) rfl rfl rfl ?_
            | refine L_q (Q_ldA 4 rfl rfl rfl) rfl rfl rfl ?_
          refine L_o rfl rfl rfl (O_call [] [0,1,2] hf' rfl rfl ?_)
          rintro _ _ ⟨rfl, rfl⟩
          refine JL.norm ?_
          refine L_q (Q_eql rfl rfl) rfl rfl rfl ?_
          refine JL_nil ?_
          repeat first
            | refine J_seq ?_
            | refine seqQ_normal ?_
            | refine J_condT rfl ?_
            | refine J_condF rfl ?_
            | refine J_block ?_
            | refine blockQ_normal ?_
            | refine J_exit ?_
            | refine seqQ_exit ?_
            | refine blockQ_hit ?_
            | refine blockQ_miss rfl ?_
            | refine J_skip ?_
            | refine J_ret ?_
            | refine seqQ_ret ?_
            | refine blockQ_ret ?_
            | refine loopQ_exit ?_
            | refine loopQ_ret ?_
            | refine J_label ?_
          repeat first
            | refine J_seq ?_
            | refine seqQ_normal ?_
            | refine J_condT rfl ?_
            | refine J_condF rfl ?_
            | refine J_block ?_
            | refine blockQ_normal ?_
            | refine J_exit ?_
            | refine seqQ_exit ?_
            | refine blockQ_hit ?_
            | refine blockQ_miss rfl ?_
            | refine J_skip ?_
            | refine J_ret ?_
            | refine seqQ_ret ?_
            | refine blockQ_ret ?_
            | refine loopQ_exit ?_
            | refine loopQ_ret ?_
            | refine J_label ?_
          refine J_region ?_
          refine L_q (Q_move rfl) rfl rfl rfl ?_
          first
            | refine L_q (Q_fa0 rfl) rfl rfl rfl ?_
            | refine L_q (Q_fa rfl rfl) rfl rfl rfl ?_
            | refine L_q (Q_pfa rfl) rfl rfl rfl ?_
          refine L_q (Q_ia (o' := 1) 1 rfl rfl rfl (by decide) (by decide)) rfl rfl rfl ?_
          first
            | refine L_s rfl rfl (O_st1 0 rfl rfl rfl rfl rfl ?_)
            | refine L_s rfl rfl (O_st1 1 rfl rfl rfl rfl rfl ?_)
            | refine L_s rfl rfl (O_st1 2 rfl rfl rfl rfl rfl ?_)
            | refine L_s rfl rfl (O_st1 3 rfl rfl rfl rfl rfl ?_)
            | refine L_s rfl rfl (O_st1 4 rfl rfl rfl rfl rfl ?_)
          refine JL.norm ?_
          refine JL_nil ?_
          repeat first
            | refine J_seq ?_
            | refine seqQ_normal ?_
            | refine J_condT rfl ?_
            | refine J_condF rfl ?_
            | refine J_block ?_
            | refine blockQ_normal ?_
            | refine J_exit ?_
            | refine seqQ_exit ?_
            | refine blockQ_hit ?_
            | refine blockQ_miss rfl ?_
            | refine J_skip ?_
            | refine J_ret ?_
            | refine seqQ_ret ?_
            | refine blockQ_ret ?_
            | refine loopQ_exit ?_
            | refine loopQ_ret ?_
            | refine J_label ?_
          repeat first
            | refine J_seq ?_
            | refine seqQ_normal ?_
            | refine J_condT rfl ?_
            | refine J_condF rfl ?_
            | refine J_block ?_
            | refine blockQ_normal ?_
            | refine J_exit ?_
            | refine seqQ_exit ?_
            | refine blockQ_hit ?_
            | refine blockQ_miss rfl ?_
            | refine J_skip ?_
            | refine J_ret ?_
            | refine seqQ_ret ?_
            | refine blockQ_ret ?_
            | refine loopQ_exit ?_
            | refine loopQ_ret ?_
            | refine J_label ?_
          refine J_region ?_
          first
            | refine L_q (Q_ldA 0 rfl rfl rfl) rfl rfl rfl ?_
            | refine L_q (Q_ldA 1 rfl rfl rfl) rfl rfl rfl ?_
            | refine L_q (Q_ldA 2 rfl rfl rfl) rfl rfl rfl ?_
            | refine L_q (Q_ldA 3 rfl rfl rfl) rfl rfl rfl ?_
            | refine L_q (Q_ldA 4 rfl rfl rfl) rfl rfl rfl ?_
          first
            | refine L_s rfl rfl (O_stW 0 rfl rfl rfl rfl ?_)
            | refine L_s rfl rfl (O_stW 1 rfl rfl rfl rfl ?_)
            | refine L_s rfl rfl (O_stW 2 rfl rfl rfl rfl ?_)
            | refine L_s rfl rfl (O_stW 3 rfl rfl rfl rfl ?_)
            | refine L_s rfl rfl (O_stW 4 rfl rfl rfl rfl ?_)
          refine JL.norm ?_
          refine L_q (Q_assign rfl) rfl rfl rfl ?_
          refine JL_nil ?_
          repeat first
            | refine J_seq ?_
            | refine seqQ_normal ?_
            | refine J_condT rfl ?_
            | refine J_condF rfl ?_
            | refine J_block ?_
            | refine blockQ_normal ?_
            | refine J_exit ?_
            | refine seqQ_exit ?_
            | refine blockQ_hit ?_
            | refine blockQ_miss rfl ?_
            | refine J_skip ?_
            | refine J_ret ?_
            | refine seqQ_ret ?_
            | refine blockQ_ret ?_
            | refine loopQ_exit ?_
            | refine loopQ_ret ?_
            | refine J_label ?_
          rw [hdo]
          exact retQ_ret _ [] (.cons (RV_cell 0 rfl rfl rfl rfl) (.cons (RV_tmp rfl) .nil)) ⟨rfl, rfl⟩ (Ent.re [2] rfl)
        · have hdo : doW a b body upto = (u, b, 0) := by rw [hd0, if_neg e, hwr]
          repeat first
            | refine J_seq ?_
            | refine seqQ_normal ?_
            | refine J_condT rfl ?_
            | refine J_condF rfl ?_
            | refine J_block ?_
            | refine blockQ_normal ?_
            | refine J_exit ?_
            | refine seqQ_exit ?_
            | refine blockQ_hit ?_
            | refine blockQ_miss rfl ?_
            | refine J_skip ?_
            | refine J_ret ?_
            | refine seqQ_ret ?_
            | refine blockQ_ret ?_
            | refine loopQ_exit ?_
            | refine loopQ_ret ?_
            | refine J_label ?_
          refine J_region ?_
          first
            | refine L_q (Q_ldA 0 rfl rfl rfl) rfl rfl rfl ?_
            | refine L_q (Q_ldA 1 rfl rfl rfl) rfl rfl rfl ?_
            | refine L_q (Q_ldA 2 rfl rfl rfl) rfl rfl rfl ?_
            | refine L_q (Q_ldA 3 rfl rfl rfl) rfl rfl rfl ?_
            | refine L_q (Q_ldA 4 rfl rfl rfl) rfl rfl rfl ?_
          refine L_o rfl rfl rfl (O_call [] [0,1,2] hf rfl rfl ?_)
          rintro _ _ ⟨rfl, rfl⟩
          refine JL.norm ?_
          refine L_q ((Q_eql rfl rfl).as (v' := .bool false) (congrArg Value.bool (decide_eq_false e))) rfl rfl rfl ?_
          refine JL_nil ?_
          repeat first
            | refine J_seq ?_
            | refine seqQ_normal ?_
            | refine J_condT rfl ?_
            | refine J_condF rfl ?_
            | refine J_block ?_
            | refine blockQ_normal ?_
            | refine J_exit ?_
            | refine seqQ_exit ?_
            | refine blockQ_hit ?_
            | refine blockQ_miss rfl ?_
            | refine J_skip ?_
            | refine J_ret ?_
            | refine seqQ_ret ?_
            | refine blockQ_ret ?_
            | refine loopQ_exit ?_
            | refine loopQ_ret ?_
            | refine J_label ?_
          repeat first
            | refine J_seq ?_
            | refine seqQ_normal ?_
            | refine J_condT rfl ?_
            | refine J_condF rfl ?_
            | refine J_block ?_
            | refine blockQ_normal ?_
            | refine J_exit ?_
            | refine seqQ_exit ?_
            | refine blockQ_hit ?_
            | refine blockQ_miss rfl ?_
            | refine J_skip ?_
            | refine J_ret ?_
            | refine seqQ_ret ?_
            | refine blockQ_ret ?_
            | refine loopQ_exit ?_
            | refine loopQ_ret ?_
            | refine J_label ?_
          refine J_region ?_
          refine L_q (Q_move rfl) rfl rfl rfl ?_
          first
            | refine L_q (Q_fa0 rfl) rfl rfl rfl ?_
            | refine L_q (Q_fa rfl rfl) rfl rfl rfl ?_
            | refine L_q (Q_pfa rfl) rfl rfl rfl ?_
          refine L_q (Q_ia (o' := 0) 0 rfl rfl rfl (by decide) (by decide)) rfl rfl rfl ?_
          first
            | refine L_s rfl rfl (O_st1 0 rfl rfl rfl rfl rfl ?_)
            | refine L_s rfl rfl (O_st1 1 rfl rfl rfl rfl rfl ?_)
            | refine L_s rfl rfl (O_st1 2 rfl rfl rfl rfl rfl ?_)
            | refine L_s rfl rfl (O_st1 3 rfl rfl rfl rfl rfl ?_)
            | refine L_s rfl rfl (O_st1 4 rfl rfl rfl rfl rfl ?_)
          refine JL.norm ?_
          refine JL_nil ?_
          repeat first
            | refine J_seq ?_
            | refine seqQ_normal ?_
            | refine J_condT rfl ?_
            | refine J_condF rfl ?_
            | refine J_block ?_
            | refine blockQ_normal ?_
            | refine J_exit ?_
            | refine seqQ_exit ?_
            | refine blockQ_hit ?_
            | refine blockQ_miss rfl ?_
            | refine J_skip ?_
            | refine J_ret ?_
            | refine seqQ_ret ?_
            | refine blockQ_ret ?_
            | refine loopQ_exit ?_
            | refine loopQ_ret ?_
            | refine J_label ?_
          repeat first
            | refine J_seq ?_
            | refine seqQ_normal ?_
            | refine J_condT rfl ?_
            | refine J_condF rfl ?_
            | refine J_block ?_
            | refine blockQ_normal ?_
            | refine J_exit ?_
            | refine seqQ_exit ?_
            | refine blockQ_hit ?_
            | refine blockQ_miss rfl ?_
            | refine J_skip ?_
            | refine J_ret ?_
            | refine seqQ_ret ?_
            | refine blockQ_ret ?_
            | refine loopQ_exit ?_
            | refine loopQ_ret ?_
            | refine J_label ?_
          refine J_region ?_
          first
            | refine L_q (Q_ldA 0 rfl rfl rfl) rfl rfl rfl ?_
            | refine L_q (Q_ldA 1 rfl rfl rfl) rfl rfl rfl ?_
            | refine L_q (Q_ldA 2 rfl rfl rfl) rfl rfl rfl ?_
            | refine L_q (Q_ldA 3 rfl rfl rfl) rfl rfl rfl ?_
            | refine L_q (Q_ldA 4 rfl rfl rfl) rfl rfl rfl ?_
          first
            | refine L_s rfl rfl (O_stW 0 rfl rfl rfl rfl ?_)
            | refine L_s rfl rfl (O_stW 1 rfl rfl rfl rfl ?_)
            | refine L_s rfl rfl (O_stW 2 rfl rfl rfl rfl ?_)
            | refine L_s rfl rfl (O_stW 3 rfl rfl rfl rfl ?_)
            | refine L_s rfl rfl (O_stW 4 rfl rfl rfl rfl ?_)
          refine JL.norm ?_
          refine L_q (Q_assign rfl) rfl rfl rfl ?_
          refine JL_nil ?_
          repeat first
            | refine J_seq ?_
            | refine seqQ_normal ?_
            | refine J_condT rfl ?_
            | refine J_condF rfl ?_
            | refine J_block ?_
            | refine blockQ_normal ?_
            | refine J_exit ?_
            | refine seqQ_exit ?_
            | refine blockQ_hit ?_
            | refine blockQ_miss rfl ?_
            | refine J_skip ?_
            | refine J_ret ?_
            | refine seqQ_ret ?_
            | refine blockQ_ret ?_
            | refine loopQ_exit ?_
            | refine loopQ_ret ?_
            | refine J_label ?_
          rw [hdo]
          exact retQ_ret _ [] (.cons (RV_cell 0 rfl rfl rfl rfl) (.cons (RV_tmp rfl) .nil)) ⟨rfl, rfl⟩ (Ent.re [2] rfl)
    · rw [if_neg (fun h => hu0 h.1)] at hwr
      repeat first
        | refine J_seq ?_
        | refine seqQ_normal ?_
        | refine J_condT rfl ?_
        | refine J_condF rfl ?_
        | refine J_block ?_
        | refine blockQ_normal ?_
        | refine J_exit ?_
        | refine seqQ_exit ?_
        | refine blockQ_hit ?_
        | refine blockQ_miss rfl ?_
        | refine J_skip ?_
        | refine J_ret ?_
        | refine seqQ_ret ?_
        | refine blockQ_ret ?_
        | refine loopQ_exit ?_
        | refine loopQ_ret ?_
        | refine J_label ?_
      refine J_region ?_
      refine L_q (Q_move rfl) rfl rfl rfl ?_
      refine L_q ((Q_geq rfl rfl).as (v' := .bool false) (congrArg Value.bool (decide_eq_false hu0))) rfl rfl rfl ?_
      refine L_q (Q_move rfl) rfl rfl rfl ?_
      refine L_n rfl rfl rfl ?_
      refine L_n rfl rfl rfl ?_
      refine L_n rfl rfl rfl ?_
      refine L_n rfl rfl rfl ?_
      first
        | refine L_q (Q_pickT rfl rfl) rfl rfl rfl ?_
        | refine L_q (Q_pickF rfl rfl) rfl rfl rfl ?_
        | refine L_q (Q_pickB rfl rfl rfl) rfl rfl rfl ?_
      refine JL_nil ?_
      repeat first
        | refine J_seq ?_
        | refine seqQ_normal ?_
        | refine J_condT rfl ?_
        | refine J_condF rfl ?_
        | refine J_block ?_
        | refine blockQ_normal ?_
        | refine J_exit ?_
        | refine seqQ_exit ?_
        | refine blockQ_hit ?_
        | refine blockQ_miss rfl ?_
        | refine J_skip ?_
        | refine J_ret ?_
        | refine seqQ_ret ?_
        | refine blockQ_ret ?_
        | refine loopQ_exit ?_
        | refine loopQ_ret ?_
        | refine J_label ?_
      by_cases e : told a b = 0
      · have hdo : doW a b body upto = (a, u, 0) := by rw [hd0, if_pos e, hwr]
        have hf' := hf
        rw [e] at hf'
        repeat first
          | refine J_seq ?_
          | refine seqQ_normal ?_
          | refine J_condT rfl ?_
          | refine J_condF rfl ?_
          | refine J_block ?_
          | refine blockQ_normal ?_
          | refine J_exit ?_
          | refine seqQ_exit ?_
          | refine blockQ_hit ?_
          | refine blockQ_miss rfl ?_
          | refine J_skip ?_
          | refine J_ret ?_
          | refine seqQ_ret ?_
          | refine blockQ_ret ?_
          | refine loopQ_exit ?_
          | refine loopQ_ret ?_
          | refine J_label ?_
        refine J_region ?_
        first
          | refine L_q (Q_ldA 0 rfl rfl rfl) rfl rfl rfl ?_
          | refine L_q (Q_ldA 1 rfl rfl rfl) rfl rfl rfl ?_
          | refine L_q (Q_ldA 2 rfl rfl rfl) rfl rfl rfl ?_
          | refine L_q (Q_ldA 3 rfl rfl rfl) rfl rfl rfl ?_
          | refine L_q (Q_ldA 4 rfl rfl rfl) rfl rfl rfl ?_
        refine L_o rfl rfl rfl (O_call [] [0,1,2] hf' rfl rfl ?_)
        rintro _ _ ⟨rfl, rfl⟩
        refine JL.norm ?_
        refine L_q (Q_eql rfl rfl) rfl rfl rfl ?_
        refine JL_nil ?_
        repeat first
          | refine J_seq ?_
          | refine seqQ_normal ?_
          | refine J_condT rfl ?_
          | refine J_condF rfl ?_
          | refine J_block ?_
          | refine blockQ_normal ?_
          | refine J_exit ?_
          | refine seqQ_exit ?_
          | refine blockQ_hit ?_
          | refine blockQ_miss rfl ?_
          | refine J_skip ?_
          | refine J_ret ?_
          | refine seqQ_ret ?_
          | refine blockQ_ret ?_
          | refine loopQ_exit ?_
          | refine loopQ_ret ?_
          | refine J_label ?_
        repeat first
          | refine J_seq ?_
          | refine seqQ_normal ?_
          | refine J_condT rfl ?_
          | refine J_condF rfl ?_
          | refine J_block ?_
          | refine blockQ_normal ?_
          | refine J_exit ?_
          | refine seqQ_exit ?_
          | refine blockQ_hit ?_
          | refine blockQ_miss rfl ?_
          | refine J_skip ?_
          | refine J_ret ?_
          | refine seqQ_ret ?_
          | refine blockQ_ret ?_
          | refine loopQ_exit ?_
          | refine loopQ_ret ?_
          | refine J_label ?_
        refine J_region ?_
        refine L_q (Q_move rfl) rfl rfl rfl ?_
        first
          | refine L_q (Q_fa0 rfl) rfl rfl rfl ?_
          | refine L_q (Q_fa rfl rfl) rfl rfl rfl ?_
          | refine L_q (Q_pfa rfl) rfl rfl rfl ?_
        refine L_q (Q_ia (o' := 1) 1 rfl rfl rfl (by decide) (by decide)) rfl rfl rfl ?_
        first
          | refine L_s rfl rfl (O_st1 0 rfl rfl rfl rfl rfl ?_)
          | refine L_s rfl rfl (O_st1 1 rfl rfl rfl rfl rfl ?_)
          | refine L_s rfl rfl (O_st1 2 rfl rfl rfl rfl rfl ?_)
          | refine L_s rfl rfl (O_st1 3 rfl rfl rfl rfl rfl ?_)
          | refine L_s rfl rfl (O_st1 4 rfl rfl rfl rfl rfl ?_)
        refine JL.norm ?_
        refine JL_nil ?_
        repeat first
          | refine J_seq ?_
          | refine seqQ_normal ?_
          | refine J_condT rfl ?_
          | refine J_condF rfl ?_
          | refine J_block ?_
          | refine blockQ_normal ?_
          | refine J_exit ?_
          | refine seqQ_exit ?_
          | refine blockQ_hit ?_
          | refine blockQ_miss rfl ?_
          | refine J_skip ?_
          | refine J_ret ?_
          | refine seqQ_ret ?_
          | refine blockQ_ret ?_
          | refine loopQ_exit ?_
          | refine loopQ_ret ?_
          | refine J_label ?_
        repeat first
          | refine J_seq ?_
          | refine seqQ_normal ?_
          | refine J_condT rfl ?_
          | refine J_condF rfl ?_
          | refine J_block ?_
          | refine blockQ_normal ?_
          | refine J_exit ?_
          | refine seqQ_exit ?_
          | refine blockQ_hit ?_
          | refine blockQ_miss rfl ?_
          | refine J_skip ?_
          | refine J_ret ?_
          | refine seqQ_ret ?_
          | refine blockQ_ret ?_
          | refine loopQ_exit ?_
          | refine loopQ_ret ?_
          | refine J_label ?_
        refine J_region ?_
        first
          | refine L_q (Q_ldA 0 rfl rfl rfl) rfl rfl rfl ?_
          | refine L_q (Q_ldA 1 rfl rfl rfl) rfl rfl rfl ?_
          | refine L_q (Q_ldA 2 rfl rfl rfl) rfl rfl rfl ?_
          | refine L_q (Q_ldA 3 rfl rfl rfl) rfl rfl rfl ?_
          | refine L_q (Q_ldA 4 rfl rfl rfl) rfl rfl rfl ?_
        first
          | refine L_s rfl rfl (O_stW 0 rfl rfl rfl rfl ?_)
          | refine L_s rfl rfl (O_stW 1 rfl rfl rfl rfl ?_)
          | refine L_s rfl rfl (O_stW 2 rfl rfl rfl rfl ?_)
          | refine L_s rfl rfl (O_stW 3 rfl rfl rfl rfl ?_)
          | refine L_s rfl rfl (O_stW 4 rfl rfl rfl rfl ?_)
        refine JL.norm ?_
        refine L_q (Q_assign rfl) rfl rfl rfl ?_
        refine JL_nil ?_
        repeat first
          | refine J_seq ?_
          | refine seqQ_normal ?_
          | refine J_condT rfl ?_
          | refine J_condF rfl ?_
          | refine J_block ?_
          | refine blockQ_normal ?_
          | refine J_exit ?_
          | refine seqQ_exit ?_
          | refine blockQ_hit ?_
          | refine blockQ_miss rfl ?_
          | refine J_skip ?_
          | refine J_ret ?_
          | refine seqQ_ret ?_
          | refine blockQ_ret ?_
          | refine loopQ_exit ?_
          | refine loopQ_ret ?_
          | refine J_label ?_
        rw [hdo]
        exact retQ_ret _ [] (.cons (RV_cell 0 rfl rfl rfl rfl) (.cons (RV_tmp rfl) .nil)) ⟨rfl, rfl⟩ (Ent.re [2] rfl)
      · have hdo : doW a b body upto = (u, b, 0) := by rw [hd0, if_neg e, hwr]
        repeat first
          | refine J_seq ?_
          | refine seqQ_normal ?_
          | refine J_condT rfl ?_
          | refine J_condF rfl ?_
          | refine J_block ?_
          | refine blockQ_normal ?_
          | refine J_exit ?_
          | refine seqQ_exit ?_
          | refine blockQ_hit ?_
          | refine blockQ_miss rfl ?_
          | refine J_skip ?_
          | refine J_ret ?_
          | refine seqQ_ret ?_
          | refine blockQ_ret ?_
          | refine loopQ_exit ?_
          | refine loopQ_ret ?_
          | refine J_label ?_
        refine J_region ?_
        first
          | refine L_q (Q_ldA 0 rfl rfl rfl) rfl rfl rfl ?_
          | refine L_q (Q_ldA 1 rfl rfl rfl) rfl rfl rfl ?_
          | refine L_q (Q_ldA 2 rfl rfl rfl) rfl rfl rfl ?_
          | refine L_q (Q_ldA 3 rfl rfl rfl) rfl rfl rfl ?_
          | refine L_q (Q_ldA 4 rfl rfl rfl) rfl rfl rfl ?_
        refine L_o rfl rfl rfl (O_call [] [0,1,2] hf rfl rfl ?_)
        rintro _ _ ⟨rfl, rfl⟩
        refine JL.norm ?_
        refine L_q ((Q_eql rfl rfl).as (v' := .bool false) (congrArg Value.bool (decide_eq_false e))) rfl rfl rfl ?_
        refine JL_nil ?_
        repeat first
          | refine J_seq ?_
          | refine seqQ_normal ?_
          | refine J_condT rfl ?_
          | refine J_condF rfl ?_
          | refine J_block ?_
          | refine blockQ_normal ?_
          | refine J_exit ?_
          | refine seqQ_exit ?_
          | refine blockQ_hit ?_
          | refine blockQ_miss rfl ?_
          | refine J_skip ?_
          | refine J_ret ?_
          | refine seqQ_ret ?_
          | refine blockQ_ret ?_
          | refine loopQ_exit ?_
          | refine loopQ_ret ?_
          | refine J_label ?_
        repeat first
          | refine J_seq ?_
          | refine seqQ_normal ?_
          | refine J_condT rfl ?_
          | refine J_condF rfl ?_
          | refine J_block ?_
          | refine blockQ_normal ?_
          | refine J_exit ?_
          | refine seqQ_exit ?_
          | refine blockQ_hit ?_
          | refine blockQ_miss rfl ?_
          | refine J_skip ?_
          | refine J_ret ?_
          | refine seqQ_ret ?_
          | refine blockQ_ret ?_
          | refine loopQ_exit ?_
          | refine loopQ_ret ?_
          | refine J_label ?_
        refine J_region ?_
        refine L_q (Q_move rfl) rfl rfl rfl ?_
        first
          | refine L_q (Q_fa0 rfl) rfl rfl rfl ?_
          | refine L_q (Q_fa rfl rfl) rfl rfl rfl ?_
          | refine L_q (Q_pfa rfl) rfl rfl rfl ?_
        refine L_q (Q_ia (o' := 0) 0 rfl rfl rfl (by decide) (by decide)) rfl rfl rfl ?_
        first
          | refine L_s rfl rfl (O_st1 0 rfl rfl rfl rfl rfl ?_)
          | refine L_s rfl rfl (O_st1 1 rfl rfl rfl rfl rfl ?_)
          | refine L_s rfl rfl (O_st1 2 rfl rfl rfl rfl rfl ?_)
          | refine L_s rfl rfl (O_st1 3 rfl rfl rfl rfl rfl ?_)
          | refine L_s rfl rfl (O_st1 4 rfl rfl rfl rfl rfl ?_)
        refine JL.norm ?_
        refine JL_nil ?_
        repeat first
          | refine J_seq ?_
          | refine seqQ_normal ?_
          | refine J_condT rfl ?_
          | refine J_condF rfl ?_
          | refine J_block ?_
          | refine blockQ_normal ?_
          | refine J_exit ?_
          | refine seqQ_exit ?_
          | refine blockQ_hit ?_
          | refine blockQ_miss rfl ?_
          | refine J_skip ?_
          | refine J_ret ?_
          | refine seqQ_ret ?_
          | refine blockQ_ret ?_
          | refine loopQ_exit ?_
          | refine loopQ_ret ?_
          | refine J_label ?_
        repeat first
          | refine J_seq ?_
          | refine seqQ_normal ?_
          | refine J_condT rfl ?_
          | refine J_condF rfl ?_
          | refine J_block ?_
          | refine blockQ_normal ?_
          | refine J_exit ?_
          | refine seqQ_exit ?_
          | refine blockQ_hit ?_
          | refine blockQ_miss rfl ?_
          | refine J_skip ?_
          | refine J_ret ?_
          | refine seqQ_ret ?_
          | refine blockQ_ret ?_
          | refine loopQ_exit ?_
          | refine loopQ_ret ?_
          | refine J_label ?_
        refine J_region ?_
        first
          | refine L_q (Q_ldA 0 rfl rfl rfl) rfl rfl rfl ?_
          | refine L_q (Q_ldA 1 rfl rfl rfl) rfl rfl rfl ?_
          | refine L_q (Q_ldA 2 rfl rfl rfl) rfl rfl rfl ?_
          | refine L_q (Q_ldA 3 rfl rfl rfl) rfl rfl rfl ?_
          | refine L_q (Q_ldA 4 rfl rfl rfl) rfl rfl rfl ?_
        first
          | refine L_s rfl rfl (O_stW 0 rfl rfl rfl rfl ?_)
          | refine L_s rfl rfl (O_stW 1 rfl rfl rfl rfl ?_)
          | refine L_s rfl rfl (O_stW 2 rfl rfl rfl rfl ?_)
          | refine L_s rfl rfl (O_stW 3 rfl rfl rfl rfl ?_)
          | refine L_s rfl rfl (O_stW 4 rfl rfl rfl rfl ?_)
        refine JL.norm ?_
        refine L_q (Q_assign rfl) rfl rfl rfl ?_
        refine JL_nil ?_
        repeat first
          | refine J_seq ?_
          | refine seqQ_normal ?_
          | refine J_condT rfl ?_
          | refine J_condF rfl ?_
          | refine J_block ?_
          | refine blockQ_normal ?_
          | refine J_exit ?_
          | refine seqQ_exit ?_
          | refine blockQ_hit ?_
          | refine blockQ_miss rfl ?_
          | refine J_skip ?_
          | refine J_ret ?_
          | refine seqQ_ret ?_
          | refine blockQ_ret ?_
          | refine loopQ_exit ?_
          | refine loopQ_ret ?_
          | refine J_label ?_
        rw [hdo]
        exact retQ_ret _ [] (.cons (RV_cell 0 rfl rfl rfl rfl) (.cons (RV_tmp rfl) .nil)) ⟨rfl, rfl⟩ (Ent.re [2] rfl)
end Go.Proofs
