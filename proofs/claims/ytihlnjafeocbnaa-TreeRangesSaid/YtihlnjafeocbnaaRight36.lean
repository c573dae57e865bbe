/- The law TreeRight: its walk. -/
import Derived.Test.YtihlnjafeocbnaaClone36
set_option autoImplicit false
namespace Go.Proofs
open Go.SL
theorem pow8_le {j : Nat} (h : j ≤ 5) : 8 ^ j ≤ 32768 := Nat.pow_le_pow_right (by decide : 0 < 8) h
theorem pow4_le {j : Nat} (h : j ≤ 5) : 4 ^ (j - 1) ≤ 256 := Nat.pow_le_pow_right (by decide : 0 < 4) (by omega : j - 1 ≤ 4)
theorem i64n {n : Nat} (h : n ≤ 32768) : IntKind.i64.wrap (n : Int) = n := IntWalk.i64_in _ (by omega)
attribute [local irreducible] J JL QOp JOp seqQ blockQ loopQ retQ slc cel hex star pur stars Does RV Ent pAt scopeQ
attribute [local irreducible] nodeA nodeX treeA
theorem tright36_ok (E : World) (T : SV) (l : List Dd) : Does Try.prog E 5 [T.v] [slc tDd false T l] fun v L => v = .bool true ∧ L = [] := by
  refine Does.of Try.func5 rfl Try.ntmps5 rfl rfl fun F => ?_
  refine J.norm ?_
  refine J_seq ?_
  refine J_region ?_
  refine L_q (Q_assign rfl) rfl rfl rfl ?_
  refine JL_nil ?_
  refine seqQ_normal ?_
  refine J_seq ?_
  refine J_seq ?_
  cases hf : fewK l with
  | false =>
    have hfw := fewK_ok E T l
    rw [hf] at hfw
    refine J_region ?_
    refine L_q (Q_move rfl) rfl rfl rfl ?_
    refine L_o rfl rfl rfl (O_call [0] [1] hfw rfl rfl ?_)
    rintro _ _ ⟨rfl, rfl⟩
    refine JL.norm ?_
    refine L_q ((Q_not rfl).as (v' := .bool true) rfl) rfl rfl rfl ?_
    refine JL_nil ?_
    refine seqQ_normal ?_
    refine J_condT rfl ?_
    refine J_seq ?_
    refine J_region ?_
    refine L_o rfl rfl rfl (O_call [] [0,1] (awake36_ok E) rfl rfl ?_)
    rintro _ _ ⟨rfl, rfl⟩
    refine JL.norm ?_
    refine L_q (Q_assign rfl) rfl rfl rfl ?_
    refine JL_nil ?_
    refine seqQ_normal ?_
    refine J_ret ?_
    refine seqQ_ret ?_
    exact retQ_ret _ [] (.cons (RV_tmp rfl) .nil) ⟨rfl, rfl⟩ (Ent.re [1] rfl)
  | true =>
    have hfw := fewK_ok E T l
    rw [hf] at hfw
    obtain ⟨h300, _⟩ := fewK_text hf
    refine J_region ?_
    refine L_q (Q_move rfl) rfl rfl rfl ?_
    refine L_o rfl rfl rfl (O_call [0] [1] hfw rfl rfl ?_)
    rintro _ _ ⟨rfl, rfl⟩
    refine JL.norm ?_
    refine L_q ((Q_not rfl).as (v' := .bool false) rfl) rfl rfl rfl ?_
    refine JL_nil ?_
    refine seqQ_normal ?_
    refine J_condF rfl ?_
    refine J_skip ?_
    refine seqQ_normal ?_
    refine J_seq ?_
    refine J_region ?_
    refine L_o rfl rfl rfl (O_call [] [0,1] (tnew_ok E) rfl rfl ?_)
    rintro _ _ ⟨p, rfl, rfl⟩
    refine JL.norm ?_
    refine L_q (Q_assign rfl) rfl rfl rfl ?_
    refine JL_nil ?_
    refine seqQ_normal ?_
    refine J_seq ?_
    refine J_seq ?_
    refine J_region ?_
    refine L_q (Q_assign rfl) rfl rfl rfl ?_
    refine JL_nil ?_
    refine seqQ_normal ?_
    refine J_block ?_
    refine J_loop (fun i : Nat => i ≤ l.length) (fun i => [(0, T.v), (3, .pointer (some ⟨p, 0, none⟩)), (4, .int .i64 (i : Int))]) (fun i => [slc tDd false T l, treeA p (runL [] (l.take i)), F]) (fun i => l.length - i) 0 (Nat.zero_le _) ⟨rfl, rfl, rfl, trivial⟩ (Ent.re [1, 0, 2] rfl) ?_
    intro k hk
    have hup := runL_upT l k
    have hlen := runL_300 (k := k) h300
    refine J_seq ?_
    refine J_seq ?_
    refine J_region ?_
    refine L_q (Q_move rfl) rfl rfl rfl ?_
    refine L_q (Q_move rfl) rfl rfl rfl ?_
    refine L_q (Q_lenAt 0 rfl rfl) rfl rfl rfl ?_
    refine L_q (Q_lss rfl rfl) rfl rfl rfl ?_
    refine JL_nil ?_
    refine seqQ_normal ?_
    refine J_condD rfl (fun h => ?_) (fun h => ?_)
    · have hlt : k < l.length := by omega
      have hst := take_runL hlt
      have hlen2 := runL_300 (k := k + 1) h300
      rw [hst] at hlen2
      generalize runL [] (l.take k) = m at *
      obtain ⟨gb, hg⟩ : ∃ gb, l[k].gone = gb := ⟨_, rfl⟩
      refine J_skip ?_
      refine seqQ_normal ?_
      refine J_seq ?_
      refine J_block ?_
      refine J_seq ?_
      refine J_seq ?_
      refine J_region ?_
      refine L_q (Q_move rfl) rfl rfl rfl ?_
      refine L_q (Q_move rfl) rfl rfl rfl ?_
      refine L_q (Q_ixAt 0 k rfl rfl rfl rfl hlt rfl) rfl rfl rfl ?_
      refine L_q (Q_pfa rfl) rfl rfl rfl ?_
      refine L_q (Q_ldEAt 0 k 0 (v := .bool gb) rfl rfl rfl rfl hlt (by decide) (by rw [← hg]; rfl)) rfl rfl rfl ?_
      refine JL_nil ?_
      refine seqQ_normal ?_
      refine J.mid (fun ρ' L' => envSub [(0, T.v), (3, .pointer (some ⟨p, 0, none⟩)), (4, .int .i64 (k : Int))] ρ' ∧ Ent L' [slc tDd false T l, treeA p (doL m l[k]), F]) ?_ ?_
      · cases gb with
        | true =>
          have hdo : doL m l[k] = delL m l[k].key := by unfold doL; rw [if_pos hg]
          refine J_condT rfl ?_
          refine J_region ?_
          refine L_q (Q_move rfl) rfl rfl rfl ?_
          refine L_q (Q_move rfl) rfl rfl rfl ?_
          refine L_q (Q_move rfl) rfl rfl rfl ?_
          refine L_q (Q_ixAt 0 k rfl rfl rfl rfl hlt rfl) rfl rfl rfl ?_
          refine L_q (Q_pfa rfl) rfl rfl rfl ?_
          refine L_q (Q_ldEAt 0 k 1 (v := str l[k].key) rfl rfl rfl rfl hlt (by decide) rfl) rfl rfl rfl ?_
          refine L_o rfl rfl rfl (O_call [1] [0,2] (tdel_ok E p m l[k].key (by omega)) rfl rfl ?_)
          rintro _ _ ⟨rfl, rfl⟩
          refine JL.norm ?_
          refine JL_nil ?_
          rw [hdo]
          exact ⟨rfl, ⟨rfl, rfl, rfl, trivial⟩, Ent.re [1, 0, 2] rfl⟩
        | false =>
          have hdo : doL m l[k] = putL m l[k].key l[k].val := by unfold doL; rw [if_neg (by rw [hg]; simp)]
          refine J_condF rfl ?_
          refine J_drawH [0] [0, 1, 2, 3, 4, 5, 6, 7, 8, 9, 10] (.quiet 0 (.quiet 1 (.quiet 2 (.quiet 3 (.quiet 4 (.quiet 5 (.quiet 6 (.quiet 7 (.quiet 8 (.quiet 9 (.quiet 10 (.loud 11 .done)))))))))))) Try.mixed (by kernel_rfl) (by kernel_rfl) (by repeat (first | exact retQ_noP | refine seqQ_noP ?_ | refine blockQ_noP ?_ | refine loopQ_noP ?_ | refine scopeQ_noP ?_ | (intro _ _ _ h; cases h.1))) ?_
          refine S_q (Ent.re [0] rfl) rfl (Q_move rfl) rfl rfl rfl ?_
          refine S_q (Ent.re [0] rfl) rfl (Q_move rfl) rfl rfl rfl ?_
          refine S_q (Ent.re [0] rfl) rfl (Q_move rfl) rfl rfl rfl ?_
          refine S_q (Ent.re [0] rfl) rfl (Q_ixAt 0 k rfl rfl rfl rfl hlt rfl) rfl rfl rfl ?_
          refine S_q (Ent.re [0] rfl) rfl (Q_pfa rfl) rfl rfl rfl ?_
          refine S_q (Ent.re [0] rfl) rfl (Q_ldEAt 0 k 1 (v := str l[k].key) rfl rfl rfl rfl hlt (by decide) rfl) rfl rfl rfl ?_
          refine S_q (Ent.re [0] rfl) rfl (Q_move rfl) rfl rfl rfl ?_
          refine S_q (Ent.re [0] rfl) rfl (Q_move rfl) rfl rfl rfl ?_
          refine S_q (Ent.re [0] rfl) rfl (Q_ixAt 0 k rfl rfl rfl rfl hlt rfl) rfl rfl rfl ?_
          refine S_q (Ent.re [0] rfl) rfl (Q_pfa rfl) rfl rfl rfl ?_
          refine S_q (Ent.re [0] rfl) rfl (Q_ldEAt 0 k 2 (v := str l[k].val) rfl rfl rfl rfl hlt (by decide) rfl) rfl rfl rfl ?_
          refine S_o rfl rfl rfl rfl (O_call [1] [0,2] (tput_ok E p m l[k].key l[k].val (by omega)) rfl rfl ?_)
          (rintro _ _ ⟨rfl, rfl⟩; refine ⟨_, fun _ => ⟨Ent.reN [1] rfl, Ent.refl _⟩, ?_⟩)
          refine JS.norm ?_
          refine S_nil ?_
          rw [hdo]
          exact ⟨rfl, ⟨rfl, rfl, rfl, trivial⟩, Ent.re [1, 0, 2] rfl⟩
      rintro ρ1 L1 ⟨hsub, hent⟩
      refine J.sub hsub ?_
      refine J.ent hent ?_
      clear hsub hent
      generalize doL m l[k] = m2 at *
      refine J_seq ?_
      refine J_region ?_
      refine L_q (Q_assign rfl) rfl rfl rfl ?_
      refine L_q (Q_assign rfl) rfl rfl rfl ?_
      refine JL_nil ?_
      refine seqQ_normal ?_
      refine J_seq ?_
      refine J_region ?_
      refine L_q (Q_move rfl) rfl rfl rfl ?_
      refine L_o rfl rfl rfl (O_call [1] [0,2] (tdepth_ok E p m2 (by omega)) rfl rfl ?_)
      rintro _ _ ⟨D, hD0, hD1, rfl, rfl⟩
      refine JL.norm ?_
      refine L_q (Q_assign rfl) rfl rfl rfl ?_
      refine JL_nil ?_
      refine seqQ_normal ?_
      refine J_seq ?_
      refine J_seq ?_
      have hD5 : D ≤ 5 := by
        by_cases h0 : m2 = []
        · rw [hD0 h0]; decide
        · exact depth_4 hlen2 (hD1 h0).2.1
      have hM1 : m2.length + 1 ≤ 8 ^ D := by
        by_cases h0 : m2 = []
        · rw [hD0 h0, h0]; decide
        · exact (hD1 h0).2.2
      have hM2 := pow8_le hD5
      have hL2 := pow4_le hD5
      refine J_region ?_
      refine L_q (Q_assign rfl) rfl rfl rfl ?_
      refine JL_nil ?_
      refine seqQ_normal ?_
      refine J_block ?_
      refine J.cutB (fun x ρ' L' => x = .normal ∧ envSub [(0, T.v), (3, .pointer (some ⟨p, 0, none⟩)), (4, .int .i64 (k : Int)), (5, .int .i64 ((4 ^ (D - 1) : Nat) : Int)), (6, .int .i64 ((8 ^ D : Nat) : Int)), (7, .int .i64 (D : Int))] ρ' ∧ Ent L' [slc tDd false T l, treeA p m2, F]) ?_ ?_
      · refine J_loop (fun j : Nat => j ≤ D) (fun j => [(0, T.v), (3, .pointer (some ⟨p, 0, none⟩)), (4, .int .i64 (k : Int)), (5, .int .i64 ((4 ^ (j - 1) : Nat) : Int)), (6, .int .i64 ((8 ^ j : Nat) : Int)), (7, .int .i64 (D : Int)), (8, .int .i64 (j : Int))]) (fun _ => [slc tDd false T l, treeA p m2, F]) (fun j => D - j) 0 (Nat.zero_le _) ⟨rfl, rfl, rfl, rfl, rfl, rfl, rfl, trivial⟩ (Ent.re [1, 0, 2] rfl) ?_
        intro j hj
        rcases Nat.lt_or_ge j D with hjD | hjD
        · have h8 := pow8_le (j := j + 1) (by omega)
          have h4 := pow4_le (j := j + 1) (by omega)
          have e8 : (8 : Int) * ((8 ^ j : Nat) : Int) = ((8 ^ (j + 1) : Nat) : Int) := by rw [Nat.pow_succ]; omega
          refine J_seq ?_
          refine J_seq ?_
          refine J_region ?_
          refine L_q (Q_move rfl) rfl rfl rfl ?_
          refine L_q (Q_move rfl) rfl rfl rfl ?_
          refine L_q ((Q_lss rfl rfl).as (v' := .bool true) (congrArg Value.bool (decide_eq_true (by omega)))) rfl rfl rfl ?_
          refine L_q (Q_move rfl) rfl rfl rfl ?_
          refine L_q (Q_move rfl) rfl rfl rfl ?_
          refine L_q ((Q_lss rfl rfl).as (v' := .bool true) (congrArg Value.bool (decide_eq_true (by omega)))) rfl rfl rfl ?_
          refine L_q (Q_pickT rfl rfl) rfl rfl rfl ?_
          refine JL_nil ?_
          refine seqQ_normal ?_
          refine J_condT rfl ?_
          refine J_skip ?_
          refine seqQ_normal ?_
          refine J_seq ?_
          refine J_block ?_
          refine J_seq ?_
          refine J_region ?_
          refine L_q (Q_move rfl) rfl rfl rfl ?_
          refine L_q (Q_mul (r := ((8 ^ (j + 1) : Nat) : Int)) rfl rfl (by rw [e8]; exact i64n h8)) rfl rfl rfl ?_
          refine L_q (Q_assign rfl) rfl rfl rfl ?_
          refine JL_nil ?_
          refine seqQ_normal ?_
          refine J_seq ?_
          cases j with
          | zero =>
            refine J_region ?_
            refine L_q (Q_move rfl) rfl rfl rfl ?_
            refine L_q ((Q_gtr rfl rfl).as (v' := .bool false) rfl) rfl rfl rfl ?_
            refine JL_nil ?_
            refine seqQ_normal ?_
            refine J_condF rfl ?_
            refine J_skip ?_
            refine blockQ_normal ?_
            refine seqQ_normal ?_
            refine J_region ?_
            refine L_q (Q_move rfl) rfl rfl rfl ?_
            refine L_q (Q_add rfl rfl (by first | exact IntWalk.i64_in _ (by omega) | exact IntWalk.u8_in _ (by omega) | exact IntWalk.u32_in _ (by omega) | exact IntWalk.u64_in _ (by omega) | rfl)) rfl rfl rfl ?_
            refine L_q (Q_assign rfl) rfl rfl rfl ?_
            refine JL_nil ?_
            exact loopQ_normal 1 hjD (by show D - 1 < D - 0; omega) ⟨rfl, rfl, rfl, rfl, rfl, rfl, rfl, trivial⟩ (Ent.refl _)
          | succ j =>
            have e4 : (4 : Int) * ((4 ^ (j + 1 - 1) : Nat) : Int) = ((4 ^ (j + 1 + 1 - 1) : Nat) : Int) := by
              rw [show j + 1 + 1 - 1 = (j + 1 - 1) + 1 by omega, Nat.pow_succ]; omega
            refine J_region ?_
            refine L_q (Q_move rfl) rfl rfl rfl ?_
            refine L_q ((Q_gtr rfl rfl).as (v' := .bool true) (congrArg Value.bool (decide_eq_true (by omega)))) rfl rfl rfl ?_
            refine JL_nil ?_
            refine seqQ_normal ?_
            refine J_condT rfl ?_
            refine J_region ?_
            refine L_q (Q_move rfl) rfl rfl rfl ?_
            refine L_q (Q_mul (r := ((4 ^ (j + 1 + 1 - 1) : Nat) : Int)) rfl rfl (by rw [e4]; exact i64n (Nat.le_trans h4 (by decide)))) rfl rfl rfl ?_
            refine L_q (Q_assign rfl) rfl rfl rfl ?_
            refine JL_nil ?_
            refine blockQ_normal ?_
            refine seqQ_normal ?_
            refine J_region ?_
            refine L_q (Q_move rfl) rfl rfl rfl ?_
            refine L_q (Q_add rfl rfl (by first | exact IntWalk.i64_in _ (by omega) | exact IntWalk.u8_in _ (by omega) | exact IntWalk.u32_in _ (by omega) | exact IntWalk.u64_in _ (by omega) | rfl)) rfl rfl rfl ?_
            refine L_q (Q_assign rfl) rfl rfl rfl ?_
            refine JL_nil ?_
            exact loopQ_normal (j + 1 + 1) hjD (by show D - (j + 1 + 1) < D - (j + 1); omega) ⟨rfl, rfl, rfl, rfl, rfl, rfl, rfl, trivial⟩ (Ent.refl _)
        · obtain rfl : j = D := by omega
          refine J_seq ?_
          refine J_seq ?_
          refine J_region ?_
          refine L_q (Q_move rfl) rfl rfl rfl ?_
          refine L_q (Q_move rfl) rfl rfl rfl ?_
          refine L_q ((Q_lss rfl rfl).as (v' := .bool false) (congrArg Value.bool (decide_eq_false (by omega)))) rfl rfl rfl ?_
          refine L_q (Q_move rfl) rfl rfl rfl ?_
          refine L_n rfl rfl rfl ?_
          refine L_n rfl rfl rfl ?_
          refine L_q (Q_pickF rfl rfl) rfl rfl rfl ?_
          refine JL_nil ?_
          refine seqQ_normal ?_
          refine J_condF rfl ?_
          refine J_exit ?_
          refine seqQ_exit ?_
          refine loopQ_exit ?_
          refine blockQ_hit ?_
          exact ⟨rfl, ⟨rfl, rfl, rfl, rfl, rfl, rfl, trivial⟩, Ent.refl _⟩
      rintro _ ρ2 L2 ⟨rfl, hsub, hent⟩
      refine seqQ_normal ?_
      refine J.sub hsub ?_
      refine J.ent hent ?_
      clear hsub hent
      refine J_seq ?_
      refine J.mid (fun ρ' L' => envSub [(0, T.v), (3, .pointer (some ⟨p, 0, none⟩)), (4, .int .i64 (k : Int)), (94, .bool false)] ρ' ∧ Ent L' [slc tDd false T l, treeA p m2, F]) ?_ ?_
      · by_cases h0 : m2 = []
        · have hD := hD0 h0
          have hm0 : m2.length = 0 := by rw [h0]; rfl
          refine J_region ?_
          refine L_q (Q_move rfl) rfl rfl rfl ?_
          refine L_o rfl rfl rfl (O_call [1] [0,2] (tright_ok E p m2 (by omega)) rfl rfl ?_)
          rintro _ _ ⟨rfl, rfl⟩
          refine JL.norm ?_
          refine L_q ((Q_not rfl).as (v' := .bool false) rfl) rfl rfl rfl ?_
          refine L_q (Q_move rfl) rfl rfl rfl ?_
          refine L_q (Q_move rfl) rfl rfl rfl ?_
          refine L_q ((Q_lss rfl rfl).as (v' := .bool false) (congrArg Value.bool (decide_eq_false (by omega)))) rfl rfl rfl ?_
          refine L_q (Q_pickF rfl rfl) rfl rfl rfl ?_
          refine L_q (Q_move rfl) rfl rfl rfl ?_
          refine L_q (Q_move rfl) rfl rfl rfl ?_
          refine L_o rfl rfl rfl (O_call [0] [1,2] (tlen_ok E p m2) rfl rfl ?_)
          rintro _ _ ⟨rfl, rfl⟩
          refine JL.norm ?_
          refine L_q (Q_move rfl) rfl rfl rfl ?_
          refine L_q (Q_sub rfl rfl (IntWalk.i64_in _ (by omega))) rfl rfl rfl ?_
          refine L_q ((Q_gtr rfl rfl).as (v' := .bool false) (congrArg Value.bool (decide_eq_false (by omega)))) rfl rfl rfl ?_
          refine L_q (Q_pickF rfl rfl) rfl rfl rfl ?_
          refine L_q (Q_move rfl) rfl rfl rfl ?_
          refine L_q (Q_move rfl) rfl rfl rfl ?_
          refine L_q ((Q_gtr rfl rfl).as (v' := .bool false) (congrArg Value.bool (decide_eq_false (by omega)))) rfl rfl rfl ?_
          refine L_q (Q_move rfl) rfl rfl rfl ?_
          refine L_n rfl rfl rfl ?_
          refine L_n rfl rfl rfl ?_
          refine L_n rfl rfl rfl ?_
          refine L_n rfl rfl rfl ?_
          refine L_n rfl rfl rfl ?_
          refine L_n rfl rfl rfl ?_
          refine L_q (Q_pickF rfl rfl) rfl rfl rfl ?_
          refine L_q (Q_pickF rfl rfl) rfl rfl rfl ?_
          refine L_q (Q_move rfl) rfl rfl rfl ?_
          refine L_q (Q_move rfl) rfl rfl rfl ?_
          refine L_q ((Q_eql rfl rfl).as (v' := .bool true) (congrArg Value.bool (decide_eq_true (by omega)))) rfl rfl rfl ?_
          refine L_q (Q_move rfl) rfl rfl rfl ?_
          refine L_o rfl rfl rfl (O_call [0] [1,2] (tlen_ok E p m2) rfl rfl ?_)
          rintro _ _ ⟨rfl, rfl⟩
          refine JL.norm ?_
          refine L_q ((Q_eql rfl rfl).as (v' := .bool true) (congrArg Value.bool (decide_eq_true (by omega)))) rfl rfl rfl ?_
          refine L_q ((Q_bneq rfl rfl).as (v' := .bool false) rfl) rfl rfl rfl ?_
          refine L_q (Q_pickF rfl rfl) rfl rfl rfl ?_
          refine JL_nil ?_
          exact ⟨rfl, ⟨rfl, rfl, rfl, rfl, trivial⟩, Ent.re [1, 0, 2] rfl⟩
        · obtain ⟨q1, q2, _⟩ := hD1 h0
          have hm0 : 0 < m2.length := List.length_pos_iff.2 h0
          refine J_region ?_
          refine L_q (Q_move rfl) rfl rfl rfl ?_
          refine L_o rfl rfl rfl (O_call [1] [0,2] (tright_ok E p m2 (by omega)) rfl rfl ?_)
          rintro _ _ ⟨rfl, rfl⟩
          refine JL.norm ?_
          refine L_q ((Q_not rfl).as (v' := .bool false) rfl) rfl rfl rfl ?_
          refine L_q (Q_move rfl) rfl rfl rfl ?_
          refine L_q (Q_move rfl) rfl rfl rfl ?_
          refine L_q ((Q_lss rfl rfl).as (v' := .bool false) (congrArg Value.bool (decide_eq_false (by omega)))) rfl rfl rfl ?_
          refine L_q (Q_pickF rfl rfl) rfl rfl rfl ?_
          refine L_q (Q_move rfl) rfl rfl rfl ?_
          refine L_q (Q_move rfl) rfl rfl rfl ?_
          refine L_o rfl rfl rfl (O_call [0] [1,2] (tlen_ok E p m2) rfl rfl ?_)
          rintro _ _ ⟨rfl, rfl⟩
          refine JL.norm ?_
          refine L_q (Q_move rfl) rfl rfl rfl ?_
          refine L_q (Q_sub rfl rfl (IntWalk.i64_in _ (by omega))) rfl rfl rfl ?_
          refine L_q ((Q_gtr rfl rfl).as (v' := .bool false) (congrArg Value.bool (decide_eq_false (by omega)))) rfl rfl rfl ?_
          refine L_q (Q_pickF rfl rfl) rfl rfl rfl ?_
          refine L_q (Q_move rfl) rfl rfl rfl ?_
          refine L_q (Q_move rfl) rfl rfl rfl ?_
          refine L_q ((Q_gtr rfl rfl).as (v' := .bool true) (congrArg Value.bool (decide_eq_true (by omega)))) rfl rfl rfl ?_
          refine L_q (Q_move rfl) rfl rfl rfl ?_
          refine L_q (Q_move rfl) rfl rfl rfl ?_
          refine L_o rfl rfl rfl (O_call [0] [1,2] (tlen_ok E p m2) rfl rfl ?_)
          rintro _ _ ⟨rfl, rfl⟩
          refine JL.norm ?_
          refine L_q (Q_move rfl) rfl rfl rfl ?_
          refine L_q (Q_mul rfl rfl (IntWalk.i64_in _ (by omega))) rfl rfl rfl ?_
          refine L_q (Q_sub rfl rfl (IntWalk.i64_in _ (by omega))) rfl rfl rfl ?_
          refine L_q ((Q_lss rfl rfl).as (v' := .bool false) (congrArg Value.bool (decide_eq_false (by omega)))) rfl rfl rfl ?_
          refine L_q (Q_pickT rfl rfl) rfl rfl rfl ?_
          refine L_q (Q_pickF rfl rfl) rfl rfl rfl ?_
          refine L_q (Q_move rfl) rfl rfl rfl ?_
          refine L_q (Q_move rfl) rfl rfl rfl ?_
          refine L_q ((Q_eql rfl rfl).as (v' := .bool false) (congrArg Value.bool (decide_eq_false (by omega)))) rfl rfl rfl ?_
          refine L_q (Q_move rfl) rfl rfl rfl ?_
          refine L_o rfl rfl rfl (O_call [0] [1,2] (tlen_ok E p m2) rfl rfl ?_)
          rintro _ _ ⟨rfl, rfl⟩
          refine JL.norm ?_
          refine L_q ((Q_eql rfl rfl).as (v' := .bool false) (congrArg Value.bool (decide_eq_false (by omega)))) rfl rfl rfl ?_
          refine L_q ((Q_bneq rfl rfl).as (v' := .bool false) rfl) rfl rfl rfl ?_
          refine L_q (Q_pickF rfl rfl) rfl rfl rfl ?_
          refine JL_nil ?_
          exact ⟨rfl, ⟨rfl, rfl, rfl, rfl, trivial⟩, Ent.re [1, 0, 2] rfl⟩
      rintro ρ3 L3 ⟨hsub, hent⟩
      refine J.sub hsub ?_
      refine J.ent hent ?_
      clear hsub hent
      refine J_condF rfl ?_
      refine J_skip ?_
      refine blockQ_normal ?_
      refine seqQ_normal ?_
      refine J_region ?_
      refine L_q (Q_move rfl) rfl rfl rfl ?_
      refine L_q (Q_add rfl rfl (by first | exact IntWalk.i64_in _ (by omega) | exact IntWalk.u8_in _ (by omega) | exact IntWalk.u32_in _ (by omega) | exact IntWalk.u64_in _ (by omega) | rfl)) rfl rfl rfl ?_
      refine L_q (Q_assign rfl) rfl rfl rfl ?_
      refine JL_nil ?_
      refine loopQ_normal (k + 1) hlt (by show l.length - (k + 1) < l.length - k; omega) ⟨rfl, rfl, rfl, trivial⟩ ?_
      show Ent _ [slc tDd false T l, treeA p (runL [] (l.take (k + 1))), F]
      rw [hst]
      exact Ent.refl _
    · refine J_exit ?_
      refine seqQ_exit ?_
      refine loopQ_exit ?_
      refine blockQ_hit ?_
      refine seqQ_normal ?_
      refine J_seq ?_
      refine J_region ?_
      refine L_o rfl rfl rfl (O_call [] [0,1,2] (awake36_ok E) rfl rfl ?_)
      rintro _ _ ⟨rfl, rfl⟩
      refine JL.norm ?_
      refine L_q (Q_assign rfl) rfl rfl rfl ?_
      refine JL_nil ?_
      refine seqQ_normal ?_
      refine J_ret ?_
      exact retQ_ret _ [] (.cons (RV_tmp rfl) .nil) ⟨rfl, rfl⟩ (Ent.re [2] rfl)
end Go.Proofs
