/- The document's disk, and what the laws read. -/
import Derived.Test.YtogjhcelmbhooaaDisk
set_option autoImplicit false
namespace Go.Proofs
open Go.SL
attribute [local irreducible] J JL QOp JOp seqQ blockQ loopQ retQ slc cel hex star pur stars Does RV Ent pAt

abbrev dkV (d : Dk) : Value := .agg #[str d.b, .int .i64 (d.s : Int)]

theorem rcrash_ok (E : World) (keep : Nat) (d : Dk) (hk : keep < 2 ^ 64) (hs : d.s ≤ d.b.length) (hb : d.b.length ≤ 65536) :
    Does Try.prog E 44 [dkV d, .int .u64 (keep : Int)] [] fun v L => v = dkV ⟨tear d keep, (tear d keep).length⟩ ∧ L = [] := by
  refine Does.of Try.func44 rfl Try.ntmps44 rfl rfl fun F => ?_
  refine J.norm ?_
  refine J_seq ?_
  refine J_region ?_
  refine L_o rfl rfl rfl (O_box rfl fun b2 => ?_)
  refine L_o rfl rfl rfl (O_alloc fun b4 => ?_)
  refine JL_nil ?_
  refine seqQ_normal ?_
  refine J_seq ?_
  refine J_region ?_
  refine L_q (Q_fa0 rfl) rfl rfl rfl ?_
  refine L_q (Q_ld 1 rfl rfl rfl rfl) rfl rfl rfl ?_
  refine L_o rfl rfl rfl (O_s2b tB_enc rfl rfl (by omega) (fun S => ?_))
  refine JL.norm ?_
  refine L_q (Q_assign rfl) rfl rfl rfl ?_
  refine JL_nil ?_
  refine seqQ_normal ?_
  refine J_seq ?_
  refine J_region ?_
  refine L_q (Q_fa0 rfl) rfl rfl rfl ?_
  refine L_q (Q_ld 2 rfl rfl rfl rfl) rfl rfl rfl ?_
  refine L_q (Q_quo rfl rfl (by decide) (by first | exact IntWalk.i64_quo _ _ (by omega) | rfl)) rfl rfl rfl ?_
  refine L_q (Q_assign rfl) rfl rfl rfl ?_
  refine JL_nil ?_
  refine seqQ_normal ?_
  refine J_seq ?_
  refine J_region ?_
  refine L_q (Q_fa0 rfl) rfl rfl rfl ?_
  refine L_q (Q_ld 2 rfl rfl rfl rfl) rfl rfl rfl ?_
  refine L_q (Q_assign rfl) rfl rfl rfl ?_
  refine JL_nil ?_
  refine seqQ_normal ?_
  refine J_seq ?_
  refine J_seq ?_
  refine J_region ?_
  refine L_q (Q_fa0 rfl) rfl rfl rfl ?_
  refine L_q (Q_ld 2 rfl rfl rfl rfl) rfl rfl rfl ?_
  refine L_q (Q_assign rfl) rfl rfl rfl ?_
  refine JL_nil ?_
  refine seqQ_normal ?_
  refine J_block ?_
  refine J_loop (fun k => d.s + k ≤ d.b.length) (fun k => [(1, .int .u64 (keep : Int)), (4, .pointer (some ⟨b4, 0, none⟩)), (5, S.v), (6, .int .i64 (((d.s / 64 : Nat)) : Int)), (7, .int .i64 (endTo keep d.s k : Int)), (8, .int .i64 ((d.s + k : Nat) : Int))])
    (fun k => [slc tB true S (torn keep d.s d.b k), cel b4 [.string ⟨#[]⟩, .int .i64 0] 63, F]) (fun k => d.b.length - (d.s + k)) 0 (by omega) ⟨rfl, rfl, rfl, rfl, rfl, rfl, trivial⟩ (by rw [torn_zero]; exact Ent.re [0, 1, 3] rfl) ?_
  intro k hks
  refine J_seq ?_
  refine J_seq ?_
  refine J_region ?_
  refine L_q (Q_move rfl) rfl rfl rfl ?_
  refine L_q (Q_move rfl) rfl rfl rfl ?_
  refine L_q (Q_lenAt 0 rfl rfl) rfl rfl rfl ?_
  refine L_q (Q_lss rfl rfl) rfl rfl rfl ?_
  refine JL_nil ?_
  refine seqQ_normal ?_
  refine J_condD rfl (fun h => ?_) (fun h => ?_)
  · rw [torn_length] at h
    have hlt : d.s + k < d.b.length := by omega
    refine J_skip ?_
    refine seqQ_normal ?_
    refine J_seq ?_
    refine J_block ?_
    refine J_seq ?_
    refine J_region ?_
    refine L_q (Q_move rfl) rfl rfl rfl ?_
    refine L_q (Q_quo rfl rfl (by decide) (by first | exact IntWalk.i64_quo _ _ (by omega) | rfl)) rfl rfl rfl ?_
    refine L_q (Q_move rfl) rfl rfl rfl ?_
    refine L_q (Q_sub rfl rfl (by first | exact IntWalk.i64_in _ (by omega) | exact IntWalk.u8_in _ (by omega) | exact IntWalk.u32_in _ (by omega) | exact IntWalk.u64_in _ (by omega) | rfl)) rfl rfl rfl ?_
    refine L_q (Q_assign rfl) rfl rfl rfl ?_
    refine JL_nil ?_
    refine seqQ_normal ?_
    refine J_seq ?_
    refine J_region ?_
    refine L_q (Q_move rfl) rfl rfl rfl ?_
    refine L_q (Q_lss rfl rfl) rfl rfl rfl ?_
    refine L_q (Q_move rfl) rfl rfl rfl ?_
    have hsh : ((keep : Int).fdiv (2 ^ (min (((d.s + k : Nat) : Int) / 64 - ((d.s / 64 : Nat) : Int)).toNat IntKind.u64.bits)) : Int) = ((keep >>> ((d.s + k) / 64 - d.s / 64) : Nat) : Int) ∨ ¬ (d.s + k) / 64 - d.s / 64 < 64 := by
      by_cases hc : (d.s + k) / 64 - d.s / 64 < 64
      · left
        have : min (((d.s + k : Nat) : Int) / 64 - ((d.s / 64 : Nat) : Int)).toNat IntKind.u64.bits = (d.s + k) / 64 - d.s / 64 := by simp [IntKind.bits]; omega
        rw [this, Int.fdiv_eq_ediv_of_nonneg _ (by exact_mod_cast Nat.zero_le _), Nat.shiftRight_eq_div_pow]
        simp
      · exact .inr hc
    have h2 := land_one (keep >>> ((d.s + k) / 64 - d.s / 64)) (Nat.lt_of_le_of_lt (Nat.shiftRight_le keep _) hk)
    refine L_splitD rfl rfl (fun hc => ?_) (fun hc => ?_)
    · have hc' : (d.s + k) / 64 - d.s / 64 < 64 := by omega
      have hsh' := hsh.resolve_right (fun h => h hc')
      refine L_q (Q_move rfl) rfl rfl rfl ?_
      refine L_q (Q_move rfl) rfl rfl rfl ?_
      refine L_q (Q_cvt rfl (by first | exact IntWalk.i64_in _ (by omega) | exact IntWalk.u8_in _ (by omega) | exact IntWalk.u32_in _ (by omega) | exact IntWalk.u64_in _ (by omega) | rfl)) rfl rfl rfl ?_
      refine L_q (Q_shr rfl rfl (by omega) rfl) rfl rfl rfl ?_
      refine L_q (Q_and rfl rfl rfl) rfl rfl rfl ?_
      refine L_q (Q_eql rfl rfl) rfl rfl rfl ?_
      refine L_q (Q_pickT rfl rfl) rfl rfl rfl ?_
      refine JL_nil ?_
      refine seqQ_normal ?_
      rw [hsh'] 
      refine J_cond rfl (fun hb => ?_) (fun hb => ?_)
      · have hb : kb keep d.s (d.s + k) = true := by
          have h3 : IntKind.u64.wrap ((BitVec.ofInt 64 ((keep >>> ((d.s + k) / 64 - d.s / 64) : Nat) : Int) &&& BitVec.ofInt 64 1).toNat : Int) = 1 := of_decide_eq_true hb
          rw [h2] at h3
          simp only [kb, hc', decide_true, Bool.true_and]
          have : keep >>> ((d.s + k) / 64 - d.s / 64) % 2 = 1 := by omega
          rw [this]; rfl
        refine J_region ?_
        refine L_q (Q_move rfl) rfl rfl rfl ?_
        refine L_q (Q_add rfl rfl (by first | exact IntWalk.i64_in _ (by omega) | exact IntWalk.u8_in _ (by omega) | exact IntWalk.u32_in _ (by omega) | exact IntWalk.u64_in _ (by omega) | rfl)) rfl rfl rfl ?_
        refine L_q (Q_assign rfl) rfl rfl rfl ?_
        refine JL_nil ?_
        refine blockQ_normal ?_
        refine seqQ_normal ?_
        refine J_region ?_
        refine L_q (Q_move rfl) rfl rfl rfl ?_
        refine L_q (Q_add rfl rfl (by first | exact IntWalk.i64_in _ (by omega) | exact IntWalk.u8_in _ (by omega) | exact IntWalk.u32_in _ (by omega) | exact IntWalk.u64_in _ (by omega) | rfl)) rfl rfl rfl ?_
        refine L_q (Q_assign rfl) rfl rfl rfl ?_
        refine JL_nil ?_
        refine loopQ_normal (k + 1) (by omega) (by omega) ⟨rfl, rfl, rfl, rfl, ?_, rfl, trivial⟩ ?_
        · simp only [endTo, hb, if_true]; rfl
        · rw [torn_kept _ _ _ _ hb]; exact Ent.refl _
      · have hb : kb keep d.s (d.s + k) = false := by
          have h3 : ¬ IntKind.u64.wrap ((BitVec.ofInt 64 ((keep >>> ((d.s + k) / 64 - d.s / 64) : Nat) : Int) &&& BitVec.ofInt 64 1).toNat : Int) = 1 := of_decide_eq_false hb
          rw [h2] at h3
          simp only [kb, hc', decide_true, Bool.true_and]
          have : keep >>> ((d.s + k) / 64 - d.s / 64) % 2 = 0 := by omega
          rw [this]; rfl
        refine J_region ?_
        refine L_q (Q_move rfl) rfl rfl rfl ?_
        refine L_q (Q_move rfl) rfl rfl rfl ?_
        refine L_q (Q_ixAt 0 (d.s + k) rfl rfl rfl rfl (by rw [torn_length]; exact hlt) rfl) rfl rfl rfl ?_
        refine L_s rfl rfl (O_stE 0 (d.s + k) 0 (0 : UInt8) rfl rfl rfl rfl rfl rfl (by simp [Value.oneCell', Value.cells]) (by rw [torn_length]; exact hlt) (by decide) rfl ?_)
        refine JL.norm ?_
        refine JL_nil ?_
        refine blockQ_normal ?_
        refine seqQ_normal ?_
        refine J_region ?_
        refine L_q (Q_move rfl) rfl rfl rfl ?_
        refine L_q (Q_add rfl rfl (by first | exact IntWalk.i64_in _ (by omega) | exact IntWalk.u8_in _ (by omega) | exact IntWalk.u32_in _ (by omega) | exact IntWalk.u64_in _ (by omega) | rfl)) rfl rfl rfl ?_
        refine L_q (Q_assign rfl) rfl rfl rfl ?_
        refine JL_nil ?_
        refine loopQ_normal (k + 1) (by omega) (by omega) ⟨rfl, rfl, rfl, rfl, ?_, rfl, trivial⟩ ?_
        · simp only [endTo, hb]; rfl
        · rw [torn_lost _ _ _ _ hb]; exact Ent.refl _
    · have hc' : ¬ (d.s + k) / 64 - d.s / 64 < 64 := by omega
      have hb : kb keep d.s (d.s + k) = false := by simp [kb, hc']
      refine L_n rfl rfl rfl ?_
      refine L_n rfl rfl rfl ?_
      refine L_n rfl rfl rfl ?_
      refine L_n rfl rfl rfl ?_
      refine L_n rfl rfl rfl ?_
      refine L_n rfl rfl rfl ?_
      refine L_q (Q_pickF rfl rfl) rfl rfl rfl ?_
      refine JL_nil ?_
      refine seqQ_normal ?_
      refine J_condF rfl ?_
      refine J_region ?_
      refine L_q (Q_move rfl) rfl rfl rfl ?_
      refine L_q (Q_move rfl) rfl rfl rfl ?_
      refine L_q (Q_ixAt 0 (d.s + k) rfl rfl rfl rfl (by rw [torn_length]; exact hlt) rfl) rfl rfl rfl ?_
      refine L_s rfl rfl (O_stE 0 (d.s + k) 0 (0 : UInt8) rfl rfl rfl rfl rfl rfl (by simp [Value.oneCell', Value.cells]) (by rw [torn_length]; exact hlt) (by decide) rfl ?_)
      refine JL.norm ?_
      refine JL_nil ?_
      refine blockQ_normal ?_
      refine seqQ_normal ?_
      refine J_region ?_
      refine L_q (Q_move rfl) rfl rfl rfl ?_
      refine L_q (Q_add rfl rfl (by first | exact IntWalk.i64_in _ (by omega) | exact IntWalk.u8_in _ (by omega) | exact IntWalk.u32_in _ (by omega) | exact IntWalk.u64_in _ (by omega) | rfl)) rfl rfl rfl ?_
      refine L_q (Q_assign rfl) rfl rfl rfl ?_
      refine JL_nil ?_
      refine loopQ_normal (k + 1) (by omega) (by omega) ⟨rfl, rfl, rfl, rfl, ?_, rfl, trivial⟩ ?_
      · simp only [endTo, hb]; rfl
      · rw [torn_lost _ _ _ _ hb]; exact Ent.refl _
  · rw [torn_length] at h
    have hkk : k = d.b.length - d.s := by omega
    have he := endTo_le keep d.s k
    refine J_exit ?_
    refine seqQ_exit ?_
    refine loopQ_exit ?_
    refine blockQ_hit ?_
    refine seqQ_normal ?_
    refine J_seq ?_
    refine J_region ?_
    refine L_q (Q_move rfl) rfl rfl rfl ?_
    refine L_q (Q_move rfl) rfl rfl rfl ?_
    refine L_q (Q_slH (endTo keep d.s k) (fun w h => h.rd 0 rfl) rfl rfl rfl (by rw [torn_length]; omega) rfl) rfl rfl rfl ?_
    refine L_q (Q_b2s tB_enc (fun w h => (h.rd 0 rfl).sub 0 (endTo keep d.s k) (Nat.zero_le _) (by rw [torn_length]; omega)) rfl) rfl rfl rfl ?_
    refine L_q (Q_move rfl) rfl rfl rfl ?_
    refine L_q (Q_build rfl) rfl rfl rfl ?_
    refine L_s rfl rfl (O_stW 1 rfl rfl rfl rfl ?_)
    refine JL.norm ?_
    refine JL_nil ?_
    refine seqQ_normal ?_
    refine J_ret ?_
    have e : ((torn keep d.s d.b k).take (endTo keep d.s k)).drop 0 = tear d keep := by subst hkk; rfl
    have e2 : (tear d keep).length = endTo keep d.s k := by rw [← e]; simp [torn_length]; omega
    rw [e]
    exact retQ_ret _ [] (.cons (RV_cell 1 rfl rfl rfl rfl) .nil) ⟨by rw [e2]; rfl, rfl⟩ (Ent.re [2] rfl)

theorem rdo_ok (E : World) (d : Dk) (a : Ac) (hk : a.keep < 2 ^ 64) (hd : d.ok) (ht : a.text.length ≤ 70000) :
    Does Try.prog E 29 [dkV d, acV a] [] fun v L => v = .tuple #[dkV (doD d a).1, .int .i64 (doD d a).2] ∧ L = [] := by
  obtain ⟨hs, hb⟩ := hd
  refine Does.of Try.func29 rfl Try.ntmps29 rfl rfl fun F => ?_
  refine J.norm ?_
  refine J_seq ?_
  refine J_region ?_
  refine L_o rfl rfl rfl (O_box rfl fun b2 => ?_)
  refine L_o rfl rfl rfl (O_box rfl fun b3 => ?_)
  refine L_o rfl rfl rfl (O_alloc fun b4 => ?_)
  refine L_q (Q_assign rfl) rfl rfl rfl ?_
  refine JL_nil ?_
  refine seqQ_normal ?_
  refine J_seq ?_
  refine J_seq ?_
  refine J_region ?_
  refine L_q (Q_fa0 rfl) rfl rfl rfl ?_
  refine L_q (Q_ld 1 rfl rfl rfl rfl) rfl rfl rfl ?_
  refine JL_nil ?_
  refine seqQ_normal ?_
  refine J_block ?_
  refine J_seq ?_
  refine J_region ?_
  refine L_q (Q_eql rfl rfl) rfl rfl rfl ?_
  refine L_q (Q_assign rfl) rfl rfl rfl ?_
  refine JL_nil ?_
  refine seqQ_normal ?_
  refine J_condD rfl (fun h1 => ?_) (fun h1 => ?_)
  · refine J_seq ?_
    refine J_seq ?_
    refine J_region ?_
    refine L_q (Q_fa0 rfl) rfl rfl rfl ?_
    refine L_q (Q_ld 1 rfl rfl rfl rfl) rfl rfl rfl ?_
    refine L_q (Q_slen rfl) rfl rfl rfl ?_
    refine L_q (Q_fa0 rfl) rfl rfl rfl ?_
    refine L_q (Q_ld 2 rfl rfl rfl rfl) rfl rfl rfl ?_
    refine L_q (Q_slen rfl) rfl rfl rfl ?_
    refine L_q (Q_sub rfl rfl (by first | exact IntWalk.i64_in _ (by omega) | exact IntWalk.u8_in _ (by omega) | exact IntWalk.u32_in _ (by omega) | exact IntWalk.u64_in _ (by omega) | rfl)) rfl rfl rfl ?_
    refine L_q (Q_gtr rfl rfl) rfl rfl rfl ?_
    refine JL_nil ?_
    refine seqQ_normal ?_
    refine J_condD rfl (fun h2 => ?_) (fun h2 => ?_)
    · refine J_seq ?_
      refine J_region ?_
      refine L_q (Q_ldA 2 rfl rfl rfl) rfl rfl rfl ?_
      refine L_s rfl rfl (O_stW 0 rfl rfl rfl rfl ?_)
      refine JL.norm ?_
      refine L_q (Q_assign rfl) rfl rfl rfl ?_
      refine JL_nil ?_
      refine seqQ_normal ?_
      refine J_ret ?_
      refine seqQ_ret ?_
      refine blockQ_ret ?_
      refine seqQ_ret ?_
      have e : doD d a = (d, 2) := by unfold doD; rw [if_pos h1, if_pos (by omega)]
      rw [e]
      exact retQ_ret _ [] (.cons (RV_cell 0 rfl rfl rfl rfl) (.cons (RV_tmp rfl) .nil)) ⟨rfl, rfl⟩ (Ent.re [3] rfl)
    · refine J_skip ?_
      refine seqQ_normal ?_
      refine J_seq ?_
      refine J_region ?_
      refine L_q (Q_fa0 rfl) rfl rfl rfl ?_
      refine L_q (Q_ld 2 rfl rfl rfl rfl) rfl rfl rfl ?_
      refine L_q (Q_fa0 rfl) rfl rfl rfl ?_
      refine L_q (Q_ld 1 rfl rfl rfl rfl) rfl rfl rfl ?_
      refine L_q (Q_sadd rfl rfl (by omega)) rfl rfl rfl ?_
      refine L_q (Q_fa0 rfl) rfl rfl rfl ?_
      refine L_s rfl rfl (O_st1 2 rfl rfl rfl rfl rfl ?_)
      refine JL.norm ?_
      refine JL_nil ?_
      refine seqQ_normal ?_
      refine J_seq ?_
      refine J_region ?_
      refine L_q (Q_ldA 2 rfl rfl rfl) rfl rfl rfl ?_
      refine L_s rfl rfl (O_stW 0 rfl rfl rfl rfl ?_)
      refine JL.norm ?_
      refine L_q (Q_assign rfl) rfl rfl rfl ?_
      refine JL_nil ?_
      refine seqQ_normal ?_
      refine J_ret ?_
      refine blockQ_ret ?_
      refine seqQ_ret ?_
      have e : doD d a = (⟨d.b ++ a.text, d.s⟩, 0) := by unfold doD; rw [if_pos h1, if_neg (by omega)]
      rw [e]
      exact retQ_ret _ [] (.cons (RV_cell 0 rfl rfl rfl rfl) (.cons (RV_tmp rfl) .nil)) ⟨rfl, rfl⟩ (Ent.re [3] rfl)
  · refine J_seq ?_
    refine J_region ?_
    refine L_q (Q_eql rfl rfl) rfl rfl rfl ?_
    refine L_q (Q_assign rfl) rfl rfl rfl ?_
    refine JL_nil ?_
    refine seqQ_normal ?_
    refine J_condD rfl (fun h2 => ?_) (fun h2 => ?_)
    · refine J_seq ?_
      refine J_region ?_
      refine L_q (Q_fa0 rfl) rfl rfl rfl ?_
      refine L_q (Q_ld 2 rfl rfl rfl rfl) rfl rfl rfl ?_
      refine L_q (Q_slen rfl) rfl rfl rfl ?_
      refine L_q (Q_fa0 rfl) rfl rfl rfl ?_
      refine L_s rfl rfl (O_st1 2 rfl rfl rfl rfl rfl ?_)
      refine JL.norm ?_
      refine JL_nil ?_
      refine seqQ_normal ?_
      refine J_seq ?_
      refine J_region ?_
      refine L_q (Q_ldA 2 rfl rfl rfl) rfl rfl rfl ?_
      refine L_s rfl rfl (O_stW 0 rfl rfl rfl rfl ?_)
      refine JL.norm ?_
      refine L_q (Q_assign rfl) rfl rfl rfl ?_
      refine JL_nil ?_
      refine seqQ_normal ?_
      refine J_ret ?_
      refine blockQ_ret ?_
      refine seqQ_ret ?_
      have e : doD d a = (⟨d.b, d.b.length⟩, 0) := by unfold doD; rw [if_neg h1, if_neg (by omega), if_pos h2]
      rw [e]
      exact retQ_ret _ [] (.cons (RV_cell 0 rfl rfl rfl rfl) (.cons (RV_tmp rfl) .nil)) ⟨rfl, rfl⟩ (Ent.re [3] rfl)
    · refine J_seq ?_
      refine J_region ?_
      refine L_q (Q_eql rfl rfl) rfl rfl rfl ?_
      refine L_q (Q_assign rfl) rfl rfl rfl ?_
      refine JL_nil ?_
      refine seqQ_normal ?_
      refine J_condD rfl (fun h3 => ?_) (fun h3 => ?_)
      · refine J_seq ?_
        refine J_region ?_
        refine L_q (Q_ldA 2 rfl rfl rfl) rfl rfl rfl ?_
        refine L_q (Q_fa0 rfl) rfl rfl rfl ?_
        refine L_q (Q_ld 1 rfl rfl rfl rfl) rfl rfl rfl ?_
        refine L_o rfl rfl rfl (O_call [] [0,1,2,3] (rcrash_ok E a.keep d hk hs hb) rfl rfl ?_)
        rintro _ _ ⟨rfl, rfl⟩
        refine JL.norm ?_
        refine L_s rfl rfl (O_stW 0 rfl rfl rfl rfl ?_)
        refine JL.norm ?_
        refine L_q (Q_assign rfl) rfl rfl rfl ?_
        refine JL_nil ?_
        refine seqQ_normal ?_
        refine J_ret ?_
        refine blockQ_ret ?_
        refine seqQ_ret ?_
        have e : doD d a = (⟨tear d a.keep, (tear d a.keep).length⟩, 0) := by unfold doD; rw [if_neg h1, if_pos h3]
        rw [e]
        exact retQ_ret _ [] (.cons (RV_cell 0 rfl rfl rfl rfl) (.cons (RV_tmp rfl) .nil)) ⟨rfl, rfl⟩ (Ent.re [3] rfl)
      · refine J_skip ?_
        refine blockQ_normal ?_
        refine seqQ_normal ?_
        refine J_seq ?_
        refine J_region ?_
        refine L_q (Q_ldA 2 rfl rfl rfl) rfl rfl rfl ?_
        refine L_s rfl rfl (O_stW 0 rfl rfl rfl rfl ?_)
        refine JL.norm ?_
        refine L_q (Q_assign rfl) rfl rfl rfl ?_
        refine JL_nil ?_
        refine seqQ_normal ?_
        refine J_ret ?_
        have e : doD d a = (d, 1) := by unfold doD; rw [if_neg h1, if_neg h3, if_neg h2]
        rw [e]
        exact retQ_ret _ [] (.cons (RV_cell 0 rfl rfl rfl rfl) (.cons (RV_tmp rfl) .nil)) ⟨rfl, rfl⟩ (Ent.re [3] rfl)
end Go.Proofs
