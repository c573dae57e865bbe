/- The law SegmentPlays: its walk. -/
import Derived.Test.YtogjhcelmbhooaaRef35d
import Derived.Test.YtogjhcelmbhooaaDrop35
set_option autoImplicit false
namespace Go.Proofs
open Go.SL
attribute [local irreducible] J JL QOp JOp seqQ blockQ loopQ retQ slc cel hex star pur stars Does RV Ent pAt scopeQ
attribute [local irreducible] fileAt diskAt
theorem plays35_calls (E : World) (z : Int) (T : SV) (l : List Ds) (hkeep : ∀ d ∈ l, d.keep < 2 ^ 64) : Does Try.prog E 3 [.int .i64 z, T.v] [slc tDs false T l] fun v L => v = .bool true ∧ L = [] := by
  have hfew := fewD_ok E T l
  refine Does.of Try.func3 rfl Try.ntmps3 rfl rfl fun F => ?_
  refine J.norm ?_
  cases hb : fewD l with
  | false =>
    rw [fewN_f hb] at hfew
    refine J_seq ?_
    refine J_region ?_
    refine L_q (Q_assign rfl) rfl rfl rfl ?_
    refine JL_nil ?_
    refine seqQ_normal ?_
    refine J_seq ?_
    refine J_seq ?_
    refine J_region ?_
    refine L_q (Q_move rfl) rfl rfl rfl ?_
    refine L_o rfl rfl rfl (O_call [0] [1] hfew rfl rfl ?_)
    rintro _ _ ⟨rfl, rfl⟩
    refine JL.norm ?_
    refine L_q ((Q_eql rfl rfl).as (v' := .bool true) rfl) rfl rfl rfl ?_
    refine JL_nil ?_
    refine seqQ_normal ?_
    refine J_condT rfl ?_
    refine J_seq ?_
    refine J_region ?_
    refine L_o rfl rfl rfl (O_call [] [0,1] (awake_ok E) rfl rfl ?_)
    rintro _ _ ⟨rfl, rfl⟩
    refine JL.norm ?_
    refine L_q (Q_assign rfl) rfl rfl rfl ?_
    refine JL_nil ?_
    refine seqQ_normal ?_
    refine J_ret ?_
    refine seqQ_ret ?_
    exact retQ_ret _ [] (.cons (RV_tmp rfl) .nil) ⟨rfl, rfl⟩ (Ent.re [1] rfl)
  | true =>
  rw [fewN_t hb] at hfew
  have hl60 := (fewD_text hb).1
  refine J_seq ?_
  refine J_region ?_
  refine L_q (Q_assign rfl) rfl rfl rfl ?_
  refine JL_nil ?_
  refine seqQ_normal ?_
  refine J_seq ?_
  refine J_seq ?_
  refine J_region ?_
  refine L_q (Q_move rfl) rfl rfl rfl ?_
  refine L_o rfl rfl rfl (O_call [0] [1] hfew rfl rfl ?_)
  rintro _ _ ⟨rfl, rfl⟩
  refine JL.norm ?_
  refine L_q ((Q_eql rfl rfl).as (v' := .bool false) rfl) rfl rfl rfl ?_
  refine JL_nil ?_
  refine seqQ_normal ?_
  refine J_condF rfl ?_
  refine J_skip ?_
  refine seqQ_normal ?_
  refine J_seq ?_
  refine J_region ?_
  refine L_q (Q_move rfl) rfl rfl rfl ?_
  refine L_o rfl rfl rfl (O_call [] [0,1] (segnew_ok E z) rfl rfl ?_)
  rintro _ _ ⟨p, rfl, rfl⟩
  refine JL.norm ?_
  refine L_q (Q_move rfl) rfl rfl rfl ?_
  refine L_o rfl rfl rfl (O_call [] [0,1,2,3,4] (rnew35_ok E z) rfl rfl ?_)
  rintro _ _ ⟨rfl, rfl⟩
  refine JL.norm ?_
  refine L_o rfl rfl rfl (O_alloc fun b6 => ?_)
  refine L_q (Q_assign rfl) rfl rfl rfl ?_
  refine L_s rfl rfl (O_stW 0 rfl rfl rfl rfl ?_)
  refine JL.norm ?_
  refine JL_nil ?_
  refine seqQ_normal ?_
  refine J_seq ?_
  refine J_seq ?_
  refine J_region ?_
  refine L_q (Q_assign rfl) rfl rfl rfl ?_
  refine JL_nil ?_
  refine seqQ_normal ?_
  refine J_block ?_
  refine J.ent ((Ent.mk fun _ _ h => (h.lay_nil tF true : Sat _ _ (slc tF true SV.nil [] :: _))).trans (Ent.stars_nil (L := _))) ?_
  refine J_loop (fun i : Nat × Lg × SV × List Fp × SV × List Fr => i.2.2.2.1.map (·.1) = i.2.1.fs ∧ i.2.2.2.2.2.map (·.1) = i.2.1.fs ∧ (∀ r ∈ i.2.2.2.2.2, r.2.n = r.1.l.length) ∧ Good i.2.1 (i.1 * 10000) ∧ i.1 ≤ l.length)
    (fun i => [(1, T.v), (5, .pointer (some ⟨p, 0, none⟩)), (6, .pointer (some ⟨b6, 0, none⟩)), (7, .int .i64 (i.1 : Int))])
    (fun i => [cel b6 [.int .i64 (i.2.1.size : Int), .int .i64 (i.2.1.sure : Int), i.2.2.2.2.1.v] 29, segC p i.2.1.size i.2.1.sure i.2.2.1, slc tPf true i.2.2.1 i.2.2.2.1, fsC i.2.2.2.1, slc tF true i.2.2.2.2.1 i.2.2.2.2.2, rowsC i.2.2.2.2.2, slc tDs false T l, F]) (fun i => l.length - i.1) (0, ⟨newSize z, 0, []⟩, SV.nil, [], SV.nil, []) ⟨rfl, rfl, by simp, (good_new z).mono (Nat.zero_le _), by simp⟩ ⟨rfl, rfl, rfl, rfl, trivial⟩ (Ent.re [2, 3, 4, 5, 1, 0, 6, 7] rfl) ?_
  rintro ⟨k, g, S, ps, X, rs⟩ ⟨hf, hfr, hrn, hg, hk⟩
  dsimp only at hf hfr hrn hg hk ⊢
  refine J_seq ?_
  refine J_seq ?_
  refine J_region ?_
  refine L_q (Q_move rfl) rfl rfl rfl ?_
  refine L_q (Q_move rfl) rfl rfl rfl ?_
  refine L_q (Q_lenAt 6 rfl rfl) rfl rfl rfl ?_
  refine L_q (Q_lss rfl rfl) rfl rfl rfl ?_
  refine JL_nil ?_
  refine seqQ_normal ?_
  refine J_condD rfl (fun h2 => ?_) (fun h2 => ?_)
  · have hlt : k < l.length := by omega
    have hkp := hkeep l[k] (List.getElem_mem hlt)
    refine J_skip ?_
    refine seqQ_normal ?_
    refine J_seq ?_
    refine J_block ?_
    refine J_seq ?_
    refine J_seq ?_
    refine J_region ?_
    refine L_q (Q_move rfl) rfl rfl rfl ?_
    refine L_q (Q_move rfl) rfl rfl rfl ?_
    refine L_q (Q_ixAt 6 k rfl rfl rfl rfl hlt rfl) rfl rfl rfl ?_
    refine L_q (Q_ldEAAt 6 k 0 (vs := [.int .i64 l[k].kind, .int .i64 l[k].n, str l[k].text, .int .u64 (l[k].keep : Int)]) rfl rfl rfl rfl hlt (by decide) rfl) rfl rfl rfl ?_
    refine L_o rfl rfl rfl (O_alloc fun b8 => ?_)
    refine L_s rfl rfl (O_stW 0 rfl rfl rfl rfl ?_)
    refine JL.norm ?_
    refine JL_nil ?_
    refine seqQ_normal ?_
    refine J_seq ?_
    refine J_region ?_
    refine L_q (Q_fa0 rfl) rfl rfl rfl ?_
    refine L_q (Q_ld 0 rfl rfl rfl rfl) rfl rfl rfl ?_
    refine JL_nil ?_
    refine seqQ_normal ?_
    refine J_block ?_
    refine J_seq ?_
    by_cases c0 : l[k].kind = 0
    · have hap := append_g E p g S ps _ l[k].text hg (by omega) hf
      have hrap := rappend_g E g X rs _ l[k].text hg (by omega) hfr hrn
      have hgd := hg.app l[k].text
      generalize (appL g l[k].text).1 = g2 at *
      generalize (appL g l[k].text).2.1 = n2 at *
      generalize (appL g l[k].text).2.2 = e2 at *
      refine J_region ?_
      refine L_q ((Q_eql rfl rfl).as (v' := .bool true) (congrArg Value.bool (decide_eq_true c0))) rfl rfl rfl ?_
      refine L_q (Q_assign rfl) rfl rfl rfl ?_
      refine JL_nil ?_
      refine seqQ_normal ?_
      refine J_condT rfl ?_
      refine J_seq ?_
      refine J_region ?_
      refine L_q (Q_ldA 1 rfl rfl rfl) rfl rfl rfl ?_
      refine L_q (Q_fa0 rfl) rfl rfl rfl ?_
      refine L_q (Q_ld 0 rfl rfl rfl rfl) rfl rfl rfl ?_
      refine L_o rfl rfl rfl (O_call [5,6] [0,1,2,3,4,7,8] hrap rfl rfl ?_)
      rintro _ _ ⟨X2, rs2, rfl, hfr2, hrn2, rfl⟩
      refine JL.norm ?_
      refine L_q (Q_move rfl) rfl rfl rfl ?_
      refine L_q (Q_extract (v := refV g2.size g2.sure X2) rfl rfl) rfl rfl rfl ?_
      refine L_q (Q_extract (v := .int .i64 (n2 : Int)) rfl rfl) rfl rfl rfl ?_
      refine L_q (Q_extract (v := .int .i64 e2) rfl rfl) rfl rfl rfl ?_
      refine L_o rfl rfl rfl (O_alloc fun b9 => ?_)
      refine L_s rfl rfl (O_stW 0 rfl rfl rfl rfl ?_)
      refine JL.norm ?_
      refine L_q (Q_assign rfl) rfl rfl rfl ?_
      refine L_q (Q_assign rfl) rfl rfl rfl ?_
      refine JL_nil ?_
      refine seqQ_normal ?_
      refine J_seq ?_
      refine J_region ?_
      refine L_q (Q_ldA 0 rfl rfl rfl) rfl rfl rfl ?_
      refine L_s rfl rfl (O_stW 4 rfl rfl rfl rfl ?_)
      refine JL.norm ?_
      refine JL_nil ?_
      refine seqQ_normal ?_
      refine J_seq ?_
      refine J_region ?_
      refine L_q (Q_move rfl) rfl rfl rfl ?_
      refine L_q (Q_fa0 rfl) rfl rfl rfl ?_
      refine L_q (Q_ld 3 rfl rfl rfl rfl) rfl rfl rfl ?_
      refine L_o rfl rfl rfl (O_call [5,6,7] [0,1,2,3,4,8,9] hap rfl rfl ?_)
      rintro _ _ ⟨S2, ps2, rfl, hf2, rfl⟩
      refine JL.norm ?_
      refine L_q (Q_move rfl) rfl rfl rfl ?_
      refine L_q (Q_extract (v := .int .i64 (n2 : Int)) rfl rfl) rfl rfl rfl ?_
      refine L_q (Q_extract (v := .int .i64 e2) rfl rfl) rfl rfl rfl ?_
      refine L_q (Q_assign rfl) rfl rfl rfl ?_
      refine L_q (Q_assign rfl) rfl rfl rfl ?_
      refine JL_nil ?_
      refine seqQ_normal ?_
      refine J_seq ?_
      refine J_region ?_
      refine L_q (Q_move rfl) rfl rfl rfl ?_
      refine L_q (Q_move rfl) rfl rfl rfl ?_
      refine L_q ((Q_neq rfl rfl).as (v' := .bool false) (congrArg Value.bool (decide_eq_false (by simp)))) rfl rfl rfl ?_
      refine L_q (Q_move rfl) rfl rfl rfl ?_
      refine L_q (Q_move rfl) rfl rfl rfl ?_
      refine L_q (Q_move rfl) rfl rfl rfl ?_
      refine L_q ((Q_neq rfl rfl).as (v' := .bool false) (congrArg Value.bool (decide_eq_false (by simp)))) rfl rfl rfl ?_
      refine L_q (Q_pickF rfl rfl) rfl rfl rfl ?_
      refine JL_nil ?_
      refine seqQ_normal ?_
      refine J_condF rfl ?_
      refine J_skip ?_
      refine blockQ_normal ?_
      refine seqQ_normal ?_
      refine J_seq ?_
      refine J.ent (Ent.re [7, 0, 1, 2, 4, 5, 8, 9] rfl) ?_
      refine J.have (p := X2.n = rs2.length) (fun w hs => (hs.rd 4 rfl).1) fun hXn => ?_
      have hfl : (rs2.length : Int) = ((g2).fs.length : Int) := by rw [← hfr2]; simp
      have d1 := first_g E p (g2) S2 ps2 _ hgd hf2
      have d2 := next_g E p (g2) S2 ps2 _ hgd (by omega) hf2
      have d3 := ssure_ok E p (g2).size (g2).sure S2
      have d4 := files_g E p (g2) S2 ps2 hf2
      have q1 := rfirst_g E (g2) X2 rs2 hfr2
      have q2 := rnext_g E (g2) X2 rs2 _ hgd (by omega) hfr2 hrn2
      refine J_drawH [0] [0, 2, 4, 5, 6, 8, 10, 11, 12, 13, 15, 16, 17, 18, 19, 20, 22, 23, 24, 25, 26] (.quiet 0 (.quiet 2 (.loud 1 (.loud 3 (.quiet 4 (.quiet 5 (.quiet 6 (.quiet 8 (.loud 7 (.loud 9 (.quiet 10 (.quiet 11 (.quiet 12 (.quiet 13 (.quiet 15 (.quiet 16 (.loud 14 (.quiet 17 (.quiet 18 (.quiet 19 (.quiet 20 (.quiet 22 (.quiet 23 (.quiet 24 (.loud 21 (.quiet 25 (.quiet 26 .done))))))))))))))))))))))))))) Try.mixed (by kernel_rfl) (by kernel_rfl) (by repeat (first | exact retQ_noP | refine seqQ_noP ?_ | refine blockQ_noP ?_ | refine loopQ_noP ?_ | refine scopeQ_noP ?_)) ?_
      refine S_q (Ent.re [0] rfl) rfl (Q_move rfl) rfl rfl rfl ?_
      refine S_q (Ent.re [0] rfl) rfl (Q_ldA 0 rfl rfl rfl) rfl rfl rfl ?_
      refine S_o rfl rfl rfl rfl (O_call [1,2,3] [0,4,5,6,7] d1 rfl rfl ?_)
      (rintro _ _ ⟨rfl, rfl⟩; refine ⟨_, fun _ => ⟨Ent.reN [3] rfl, Ent.refl _⟩, ?_⟩)
      refine JS.norm ?_
      refine S_o rfl rfl rfl rfl (O_call [4] [0,1,2,3,5,6,7] q1 rfl rfl ?_)
      (rintro _ _ ⟨rfl, rfl⟩; refine ⟨_, fun _ => ⟨Ent.reN [4] rfl, Ent.refl _⟩, ?_⟩)
      refine JS.norm ?_
      refine S_q (Ent.re [4] rfl) rfl ((Q_neq rfl rfl).as (v' := .bool false) (congrArg Value.bool (decide_eq_false (by simp)))) rfl rfl rfl ?_
      refine S_q (Ent.re [4] rfl) rfl (Q_move rfl) rfl rfl rfl ?_
      refine S_q (Ent.re [4] rfl) rfl (Q_move rfl) rfl rfl rfl ?_
      refine S_q (Ent.re [4] rfl) rfl (Q_ldA 0 rfl rfl rfl) rfl rfl rfl ?_
      refine S_o rfl rfl rfl rfl (O_call [1,2,3] [0,4,5,6,7] d2 rfl rfl ?_)
      (rintro _ _ ⟨rfl, rfl⟩; refine ⟨_, fun _ => ⟨Ent.reN [4] rfl, Ent.refl _⟩, ?_⟩)
      refine JS.norm ?_
      refine S_o rfl rfl rfl rfl (O_call [3] [0,1,2,4,5,6,7] q2 rfl rfl ?_)
      (rintro _ _ ⟨rfl, rfl⟩; refine ⟨_, fun _ => ⟨Ent.reN [4] rfl, Ent.refl _⟩, ?_⟩)
      refine JS.norm ?_
      refine S_q (Ent.re [4] rfl) rfl ((Q_neq rfl rfl).as (v' := .bool false) (congrArg Value.bool (decide_eq_false (by simp)))) rfl rfl rfl ?_
      refine S_q (Ent.re [4] rfl) rfl (Q_pickF rfl rfl) rfl rfl rfl ?_
      refine S_q (Ent.re [4] rfl) rfl (Q_move rfl) rfl rfl rfl ?_
      refine S_q (Ent.re [4] rfl) rfl (Q_move rfl) rfl rfl rfl ?_
      refine S_q (Ent.re [4] rfl) rfl (Q_fa0 rfl) rfl rfl rfl ?_
      refine S_q (Ent.re [4] rfl) rfl (Q_ld 0 rfl rfl rfl rfl) rfl rfl rfl ?_
      refine S_o rfl rfl rfl rfl (O_call [1] [0,2,3,4,5,6,7] d3 rfl rfl ?_)
      (rintro _ _ ⟨rfl, rfl⟩; refine ⟨_, fun _ => ⟨Ent.reN [4] rfl, Ent.refl _⟩, ?_⟩)
      refine JS.norm ?_
      refine S_q (Ent.re [4] rfl) rfl ((Q_neq rfl rfl).as (v' := .bool false) (congrArg Value.bool (decide_eq_false (by simp)))) rfl rfl rfl ?_
      refine S_q (Ent.re [4] rfl) rfl (Q_pickF rfl rfl) rfl rfl rfl ?_
      refine S_q (Ent.re [4] rfl) rfl (Q_move rfl) rfl rfl rfl ?_
      refine S_q (Ent.re [4] rfl) rfl (Q_move rfl) rfl rfl rfl ?_
      refine S_q (Ent.re [4] rfl) rfl (Q_fa0 rfl) rfl rfl rfl ?_
      refine S_q (Ent.re [4] rfl) rfl (Q_ld 0 rfl rfl rfl rfl) rfl rfl rfl ?_
      refine S_q (Ent.re [4] rfl) rfl (Q_lenV (S := X2) rfl) rfl rfl rfl ?_
      refine S_o rfl rfl rfl rfl (O_call [0,2] [1,3,4,5,6,7] d4 rfl rfl ?_)
      (rintro _ _ ⟨rfl, rfl⟩; refine ⟨_, fun _ => ⟨Ent.reN [4] rfl, Ent.refl _⟩, ?_⟩)
      refine JS.norm ?_
      refine S_q (Ent.re [4] rfl) rfl ((Q_neq rfl rfl).as (v' := .bool false) (congrArg Value.bool (decide_eq_false (by omega)))) rfl rfl rfl ?_
      refine S_q (Ent.re [4] rfl) rfl (Q_pickF rfl rfl) rfl rfl rfl ?_
      refine S_nil ?_
      refine seqQ_normal ?_
      refine J_condF rfl ?_
      refine J_skip ?_
      refine blockQ_normal ?_
      refine seqQ_normal ?_
      refine J_region ?_
      refine L_q (Q_move rfl) rfl rfl rfl ?_
      refine L_q (Q_add rfl rfl (by first | exact IntWalk.i64_in _ (by omega) | exact IntWalk.u8_in _ (by omega) | exact IntWalk.u32_in _ (by omega) | exact IntWalk.u64_in _ (by omega) | rfl)) rfl rfl rfl ?_
      refine L_q (Q_assign rfl) rfl rfl rfl ?_
      refine JL_nil ?_
      exact loopQ_normal (k + 1, g2, S2, ps2, X2, rs2) ⟨hf2, hfr2, hrn2, Good.mono hgd (by simp only; omega), hlt⟩ (by simp only; omega) ⟨rfl, rfl, rfl, rfl, trivial⟩ (Ent.re [4, 0, 1, 3, 2, 5, 6, 7] rfl)
    by_cases c1 : l[k].kind = 1
    · have hsy := sync_g E p g S ps _ hg (by omega) hf
      have hrsy := rsync_g E g X rs _ hg (by omega) hfr hrn
      have hgd := hg.sync
      generalize syncL g = g2 at *
      refine J_region ?_
      refine L_q ((Q_eql rfl rfl).as (v' := .bool false) (congrArg Value.bool (decide_eq_false c0))) rfl rfl rfl ?_
      refine L_q (Q_assign rfl) rfl rfl rfl ?_
      refine JL_nil ?_
      refine seqQ_normal ?_
      refine J_condF rfl ?_
      refine J_seq ?_
      refine J_region ?_
      refine L_q ((Q_eql rfl rfl).as (v' := .bool true) (congrArg Value.bool (decide_eq_true c1))) rfl rfl rfl ?_
      refine L_q (Q_assign rfl) rfl rfl rfl ?_
      refine JL_nil ?_
      refine seqQ_normal ?_
      refine J_condT rfl ?_
      refine J_seq ?_
      refine J_region ?_
      refine L_q (Q_move rfl) rfl rfl rfl ?_
      refine L_o rfl rfl rfl (O_call [2,3,4] [0,1,5,6,7,8] hsy rfl rfl ?_)
      rintro _ _ ⟨ps2, rfl, hf2, rfl⟩
      refine JL.norm ?_
      refine JL_nil ?_
      refine seqQ_normal ?_
      refine J_region ?_
      refine L_q (Q_ldA 4 rfl rfl rfl) rfl rfl rfl ?_
      refine L_o rfl rfl rfl (O_call [5,6] [0,1,2,3,4,7,8] hrsy rfl rfl ?_)
      rintro _ _ ⟨X2, rs2, rfl, hfr2, hrn2, rfl⟩
      refine JL.norm ?_
      refine L_s rfl rfl (O_stW 6 rfl rfl rfl rfl ?_)
      refine JL.norm ?_
      refine JL_nil ?_
      refine blockQ_normal ?_
      refine seqQ_normal ?_
      refine J_seq ?_
      refine J.ent (Ent.re [6, 2, 3, 4, 0, 1, 7, 8] rfl) ?_
      refine J.have (p := X2.n = rs2.length) (fun w hs => (hs.rd 4 rfl).1) fun hXn => ?_
      have hfl : (rs2.length : Int) = ((g2).fs.length : Int) := by rw [← hfr2]; simp
      have d1 := first_g E p (g2) S ps2 _ hgd hf2
      have d2 := next_g E p (g2) S ps2 _ hgd (by omega) hf2
      have d3 := ssure_ok E p (g2).size (g2).sure S
      have d4 := files_g E p (g2) S ps2 hf2
      have q1 := rfirst_g E (g2) X2 rs2 hfr2
      have q2 := rnext_g E (g2) X2 rs2 _ hgd (by omega) hfr2 hrn2
      refine J_drawH [0] [0, 2, 4, 5, 6, 8, 10, 11, 12, 13, 15, 16, 17, 18, 19, 20, 22, 23, 24, 25, 26] (.quiet 0 (.quiet 2 (.loud 1 (.loud 3 (.quiet 4 (.quiet 5 (.quiet 6 (.quiet 8 (.loud 7 (.loud 9 (.quiet 10 (.quiet 11 (.quiet 12 (.quiet 13 (.quiet 15 (.quiet 16 (.loud 14 (.quiet 17 (.quiet 18 (.quiet 19 (.quiet 20 (.quiet 22 (.quiet 23 (.quiet 24 (.loud 21 (.quiet 25 (.quiet 26 .done))))))))))))))))))))))))))) Try.mixed (by kernel_rfl) (by kernel_rfl) (by repeat (first | exact retQ_noP | refine seqQ_noP ?_ | refine blockQ_noP ?_ | refine loopQ_noP ?_ | refine scopeQ_noP ?_)) ?_
      refine S_q (Ent.re [0] rfl) rfl (Q_move rfl) rfl rfl rfl ?_
      refine S_q (Ent.re [0] rfl) rfl (Q_ldA 0 rfl rfl rfl) rfl rfl rfl ?_
      refine S_o rfl rfl rfl rfl (O_call [1,2,3] [0,4,5,6,7] d1 rfl rfl ?_)
      (rintro _ _ ⟨rfl, rfl⟩; refine ⟨_, fun _ => ⟨Ent.reN [3] rfl, Ent.refl _⟩, ?_⟩)
      refine JS.norm ?_
      refine S_o rfl rfl rfl rfl (O_call [4] [0,1,2,3,5,6,7] q1 rfl rfl ?_)
      (rintro _ _ ⟨rfl, rfl⟩; refine ⟨_, fun _ => ⟨Ent.reN [4] rfl, Ent.refl _⟩, ?_⟩)
      refine JS.norm ?_
      refine S_q (Ent.re [4] rfl) rfl ((Q_neq rfl rfl).as (v' := .bool false) (congrArg Value.bool (decide_eq_false (by simp)))) rfl rfl rfl ?_
      refine S_q (Ent.re [4] rfl) rfl (Q_move rfl) rfl rfl rfl ?_
      refine S_q (Ent.re [4] rfl) rfl (Q_move rfl) rfl rfl rfl ?_
      refine S_q (Ent.re [4] rfl) rfl (Q_ldA 0 rfl rfl rfl) rfl rfl rfl ?_
      refine S_o rfl rfl rfl rfl (O_call [1,2,3] [0,4,5,6,7] d2 rfl rfl ?_)
      (rintro _ _ ⟨rfl, rfl⟩; refine ⟨_, fun _ => ⟨Ent.reN [4] rfl, Ent.refl _⟩, ?_⟩)
      refine JS.norm ?_
      refine S_o rfl rfl rfl rfl (O_call [3] [0,1,2,4,5,6,7] q2 rfl rfl ?_)
      (rintro _ _ ⟨rfl, rfl⟩; refine ⟨_, fun _ => ⟨Ent.reN [4] rfl, Ent.refl _⟩, ?_⟩)
      refine JS.norm ?_
      refine S_q (Ent.re [4] rfl) rfl ((Q_neq rfl rfl).as (v' := .bool false) (congrArg Value.bool (decide_eq_false (by simp)))) rfl rfl rfl ?_
      refine S_q (Ent.re [4] rfl) rfl (Q_pickF rfl rfl) rfl rfl rfl ?_
      refine S_q (Ent.re [4] rfl) rfl (Q_move rfl) rfl rfl rfl ?_
      refine S_q (Ent.re [4] rfl) rfl (Q_move rfl) rfl rfl rfl ?_
      refine S_q (Ent.re [4] rfl) rfl (Q_fa0 rfl) rfl rfl rfl ?_
      refine S_q (Ent.re [4] rfl) rfl (Q_ld 0 rfl rfl rfl rfl) rfl rfl rfl ?_
      refine S_o rfl rfl rfl rfl (O_call [1] [0,2,3,4,5,6,7] d3 rfl rfl ?_)
      (rintro _ _ ⟨rfl, rfl⟩; refine ⟨_, fun _ => ⟨Ent.reN [4] rfl, Ent.refl _⟩, ?_⟩)
      refine JS.norm ?_
      refine S_q (Ent.re [4] rfl) rfl ((Q_neq rfl rfl).as (v' := .bool false) (congrArg Value.bool (decide_eq_false (by simp)))) rfl rfl rfl ?_
      refine S_q (Ent.re [4] rfl) rfl (Q_pickF rfl rfl) rfl rfl rfl ?_
      refine S_q (Ent.re [4] rfl) rfl (Q_move rfl) rfl rfl rfl ?_
      refine S_q (Ent.re [4] rfl) rfl (Q_move rfl) rfl rfl rfl ?_
      refine S_q (Ent.re [4] rfl) rfl (Q_fa0 rfl) rfl rfl rfl ?_
      refine S_q (Ent.re [4] rfl) rfl (Q_ld 0 rfl rfl rfl rfl) rfl rfl rfl ?_
      refine S_q (Ent.re [4] rfl) rfl (Q_lenV (S := X2) rfl) rfl rfl rfl ?_
      refine S_o rfl rfl rfl rfl (O_call [0,2] [1,3,4,5,6,7] d4 rfl rfl ?_)
      (rintro _ _ ⟨rfl, rfl⟩; refine ⟨_, fun _ => ⟨Ent.reN [4] rfl, Ent.refl _⟩, ?_⟩)
      refine JS.norm ?_
      refine S_q (Ent.re [4] rfl) rfl ((Q_neq rfl rfl).as (v' := .bool false) (congrArg Value.bool (decide_eq_false (by omega)))) rfl rfl rfl ?_
      refine S_q (Ent.re [4] rfl) rfl (Q_pickF rfl rfl) rfl rfl rfl ?_
      refine S_nil ?_
      refine seqQ_normal ?_
      refine J_condF rfl ?_
      refine J_skip ?_
      refine blockQ_normal ?_
      refine seqQ_normal ?_
      refine J_region ?_
      refine L_q (Q_move rfl) rfl rfl rfl ?_
      refine L_q (Q_add rfl rfl (by first | exact IntWalk.i64_in _ (by omega) | exact IntWalk.u8_in _ (by omega) | exact IntWalk.u32_in _ (by omega) | exact IntWalk.u64_in _ (by omega) | rfl)) rfl rfl rfl ?_
      refine L_q (Q_assign rfl) rfl rfl rfl ?_
      refine JL_nil ?_
      exact loopQ_normal (k + 1, g2, S, ps2, X2, rs2) ⟨hf2, hfr2, hrn2, Good.mono hgd (by simp only; omega), hlt⟩ (by simp only; omega) ⟨rfl, rfl, rfl, rfl, trivial⟩ (Ent.re [4, 0, 1, 3, 2, 5, 6, 7] rfl)
    by_cases c2 : l[k].kind = 2
    · have hdr := drop_g E p g S ps _ l[k].n hg (by omega) hf
      have hrdr := rdrop_g E g X rs _ l[k].n hg hfr hrn
      have hgd := hg.drop l[k].n
      generalize (dropL g l[k].n).1 = g2 at *
      generalize (dropL g l[k].n).2 = n2 at *
      refine J_region ?_
      refine L_q ((Q_eql rfl rfl).as (v' := .bool false) (congrArg Value.bool (decide_eq_false c0))) rfl rfl rfl ?_
      refine L_q (Q_assign rfl) rfl rfl rfl ?_
      refine JL_nil ?_
      refine seqQ_normal ?_
      refine J_condF rfl ?_
      refine J_seq ?_
      refine J_region ?_
      refine L_q ((Q_eql rfl rfl).as (v' := .bool false) (congrArg Value.bool (decide_eq_false c1))) rfl rfl rfl ?_
      refine L_q (Q_assign rfl) rfl rfl rfl ?_
      refine JL_nil ?_
      refine seqQ_normal ?_
      refine J_condF rfl ?_
      refine J_seq ?_
      refine J_region ?_
      refine L_q ((Q_eql rfl rfl).as (v' := .bool true) (congrArg Value.bool (decide_eq_true c2))) rfl rfl rfl ?_
      refine L_q (Q_assign rfl) rfl rfl rfl ?_
      refine JL_nil ?_
      refine seqQ_normal ?_
      refine J_condT rfl ?_
      refine J_seq ?_
      refine J_region ?_
      refine L_q (Q_ldA 1 rfl rfl rfl) rfl rfl rfl ?_
      refine L_q (Q_fa0 rfl) rfl rfl rfl ?_
      refine L_q (Q_ld 0 rfl rfl rfl rfl) rfl rfl rfl ?_
      refine L_o rfl rfl rfl (O_call [5,6] [0,1,2,3,4,7,8] hrdr rfl rfl ?_)
      rintro _ _ ⟨X2, rs2, rfl, hfr2, hrn2, rfl⟩
      refine JL.norm ?_
      refine L_q (Q_move rfl) rfl rfl rfl ?_
      refine L_q (Q_extract (v := refV g2.size g2.sure X2) rfl rfl) rfl rfl rfl ?_
      refine L_q (Q_extract (v := .int .i64 (n2 : Int)) rfl rfl) rfl rfl rfl ?_
      refine L_o rfl rfl rfl (O_alloc fun b14 => ?_)
      refine L_s rfl rfl (O_stW 0 rfl rfl rfl rfl ?_)
      refine JL.norm ?_
      refine L_q (Q_assign rfl) rfl rfl rfl ?_
      refine JL_nil ?_
      refine seqQ_normal ?_
      refine J_seq ?_
      refine J_region ?_
      refine L_q (Q_ldA 0 rfl rfl rfl) rfl rfl rfl ?_
      refine L_s rfl rfl (O_stW 4 rfl rfl rfl rfl ?_)
      refine JL.norm ?_
      refine JL_nil ?_
      refine seqQ_normal ?_
      refine J_seq ?_
      refine J_region ?_
      refine L_q (Q_move rfl) rfl rfl rfl ?_
      refine L_q (Q_fa0 rfl) rfl rfl rfl ?_
      refine L_q (Q_ld 3 rfl rfl rfl rfl) rfl rfl rfl ?_
      refine L_o rfl rfl rfl (O_call [5,6,7] [0,1,2,3,4,8,9] hdr rfl rfl ?_)
      rintro _ _ ⟨S2, ps2, rfl, hf2, rfl⟩
      refine JL.norm ?_
      refine L_q (Q_move rfl) rfl rfl rfl ?_
      refine L_q ((Q_neq rfl rfl).as (v' := .bool false) (congrArg Value.bool (decide_eq_false (by simp)))) rfl rfl rfl ?_
      refine JL_nil ?_
      refine seqQ_normal ?_
      refine J_condF rfl ?_
      refine J_skip ?_
      refine blockQ_normal ?_
      refine seqQ_normal ?_
      refine J_seq ?_
      refine J.ent (Ent.re [7, 0, 1, 2, 4, 5, 8, 9] rfl) ?_
      refine J.have (p := X2.n = rs2.length) (fun w hs => (hs.rd 4 rfl).1) fun hXn => ?_
      have hfl : (rs2.length : Int) = ((g2).fs.length : Int) := by rw [← hfr2]; simp
      have d1 := first_g E p (g2) S2 ps2 _ hgd hf2
      have d2 := next_g E p (g2) S2 ps2 _ hgd (by omega) hf2
      have d3 := ssure_ok E p (g2).size (g2).sure S2
      have d4 := files_g E p (g2) S2 ps2 hf2
      have q1 := rfirst_g E (g2) X2 rs2 hfr2
      have q2 := rnext_g E (g2) X2 rs2 _ hgd (by omega) hfr2 hrn2
      refine J_drawH [0] [0, 2, 4, 5, 6, 8, 10, 11, 12, 13, 15, 16, 17, 18, 19, 20, 22, 23, 24, 25, 26] (.quiet 0 (.quiet 2 (.loud 1 (.loud 3 (.quiet 4 (.quiet 5 (.quiet 6 (.quiet 8 (.loud 7 (.loud 9 (.quiet 10 (.quiet 11 (.quiet 12 (.quiet 13 (.quiet 15 (.quiet 16 (.loud 14 (.quiet 17 (.quiet 18 (.quiet 19 (.quiet 20 (.quiet 22 (.quiet 23 (.quiet 24 (.loud 21 (.quiet 25 (.quiet 26 .done))))))))))))))))))))))))))) Try.mixed (by kernel_rfl) (by kernel_rfl) (by repeat (first | exact retQ_noP | refine seqQ_noP ?_ | refine blockQ_noP ?_ | refine loopQ_noP ?_ | refine scopeQ_noP ?_)) ?_
      refine S_q (Ent.re [0] rfl) rfl (Q_move rfl) rfl rfl rfl ?_
      refine S_q (Ent.re [0] rfl) rfl (Q_ldA 0 rfl rfl rfl) rfl rfl rfl ?_
      refine S_o rfl rfl rfl rfl (O_call [1,2,3] [0,4,5,6,7] d1 rfl rfl ?_)
      (rintro _ _ ⟨rfl, rfl⟩; refine ⟨_, fun _ => ⟨Ent.reN [3] rfl, Ent.refl _⟩, ?_⟩)
      refine JS.norm ?_
      refine S_o rfl rfl rfl rfl (O_call [4] [0,1,2,3,5,6,7] q1 rfl rfl ?_)
      (rintro _ _ ⟨rfl, rfl⟩; refine ⟨_, fun _ => ⟨Ent.reN [4] rfl, Ent.refl _⟩, ?_⟩)
      refine JS.norm ?_
      refine S_q (Ent.re [4] rfl) rfl ((Q_neq rfl rfl).as (v' := .bool false) (congrArg Value.bool (decide_eq_false (by simp)))) rfl rfl rfl ?_
      refine S_q (Ent.re [4] rfl) rfl (Q_move rfl) rfl rfl rfl ?_
      refine S_q (Ent.re [4] rfl) rfl (Q_move rfl) rfl rfl rfl ?_
      refine S_q (Ent.re [4] rfl) rfl (Q_ldA 0 rfl rfl rfl) rfl rfl rfl ?_
      refine S_o rfl rfl rfl rfl (O_call [1,2,3] [0,4,5,6,7] d2 rfl rfl ?_)
      (rintro _ _ ⟨rfl, rfl⟩; refine ⟨_, fun _ => ⟨Ent.reN [4] rfl, Ent.refl _⟩, ?_⟩)
      refine JS.norm ?_
      refine S_o rfl rfl rfl rfl (O_call [3] [0,1,2,4,5,6,7] q2 rfl rfl ?_)
      (rintro _ _ ⟨rfl, rfl⟩; refine ⟨_, fun _ => ⟨Ent.reN [4] rfl, Ent.refl _⟩, ?_⟩)
      refine JS.norm ?_
      refine S_q (Ent.re [4] rfl) rfl ((Q_neq rfl rfl).as (v' := .bool false) (congrArg Value.bool (decide_eq_false (by simp)))) rfl rfl rfl ?_
      refine S_q (Ent.re [4] rfl) rfl (Q_pickF rfl rfl) rfl rfl rfl ?_
      refine S_q (Ent.re [4] rfl) rfl (Q_move rfl) rfl rfl rfl ?_
      refine S_q (Ent.re [4] rfl) rfl (Q_move rfl) rfl rfl rfl ?_
      refine S_q (Ent.re [4] rfl) rfl (Q_fa0 rfl) rfl rfl rfl ?_
      refine S_q (Ent.re [4] rfl) rfl (Q_ld 0 rfl rfl rfl rfl) rfl rfl rfl ?_
      refine S_o rfl rfl rfl rfl (O_call [1] [0,2,3,4,5,6,7] d3 rfl rfl ?_)
      (rintro _ _ ⟨rfl, rfl⟩; refine ⟨_, fun _ => ⟨Ent.reN [4] rfl, Ent.refl _⟩, ?_⟩)
      refine JS.norm ?_
      refine S_q (Ent.re [4] rfl) rfl ((Q_neq rfl rfl).as (v' := .bool false) (congrArg Value.bool (decide_eq_false (by simp)))) rfl rfl rfl ?_
      refine S_q (Ent.re [4] rfl) rfl (Q_pickF rfl rfl) rfl rfl rfl ?_
      refine S_q (Ent.re [4] rfl) rfl (Q_move rfl) rfl rfl rfl ?_
      refine S_q (Ent.re [4] rfl) rfl (Q_move rfl) rfl rfl rfl ?_
      refine S_q (Ent.re [4] rfl) rfl (Q_fa0 rfl) rfl rfl rfl ?_
      refine S_q (Ent.re [4] rfl) rfl (Q_ld 0 rfl rfl rfl rfl) rfl rfl rfl ?_
      refine S_q (Ent.re [4] rfl) rfl (Q_lenV (S := X2) rfl) rfl rfl rfl ?_
      refine S_o rfl rfl rfl rfl (O_call [0,2] [1,3,4,5,6,7] d4 rfl rfl ?_)
      (rintro _ _ ⟨rfl, rfl⟩; refine ⟨_, fun _ => ⟨Ent.reN [4] rfl, Ent.refl _⟩, ?_⟩)
      refine JS.norm ?_
      refine S_q (Ent.re [4] rfl) rfl ((Q_neq rfl rfl).as (v' := .bool false) (congrArg Value.bool (decide_eq_false (by omega)))) rfl rfl rfl ?_
      refine S_q (Ent.re [4] rfl) rfl (Q_pickF rfl rfl) rfl rfl rfl ?_
      refine S_nil ?_
      refine seqQ_normal ?_
      refine J_condF rfl ?_
      refine J_skip ?_
      refine blockQ_normal ?_
      refine seqQ_normal ?_
      refine J_region ?_
      refine L_q (Q_move rfl) rfl rfl rfl ?_
      refine L_q (Q_add rfl rfl (by first | exact IntWalk.i64_in _ (by omega) | exact IntWalk.u8_in _ (by omega) | exact IntWalk.u32_in _ (by omega) | exact IntWalk.u64_in _ (by omega) | rfl)) rfl rfl rfl ?_
      refine L_q (Q_assign rfl) rfl rfl rfl ?_
      refine JL_nil ?_
      exact loopQ_normal (k + 1, g2, S2, ps2, X2, rs2) ⟨hf2, hfr2, hrn2, Good.mono hgd (by simp only; omega), hlt⟩ (by simp only; omega) ⟨rfl, rfl, rfl, rfl, trivial⟩ (Ent.re [4, 0, 1, 3, 2, 5, 6, 7] rfl)
    by_cases c3 : l[k].kind = 3
    · have hcr := crash_g E p g S ps _ l[k].keep hkp hg (by omega) hf
      have hrcr := rcrash_g E g X rs _ l[k].keep hkp hg (by omega) hfr hrn
      have hgd := hg.crash (keep := l[k].keep)
      generalize crashL g l[k].keep = g2 at *
      refine J_region ?_
      refine L_q ((Q_eql rfl rfl).as (v' := .bool false) (congrArg Value.bool (decide_eq_false c0))) rfl rfl rfl ?_
      refine L_q (Q_assign rfl) rfl rfl rfl ?_
      refine JL_nil ?_
      refine seqQ_normal ?_
      refine J_condF rfl ?_
      refine J_seq ?_
      refine J_region ?_
      refine L_q ((Q_eql rfl rfl).as (v' := .bool false) (congrArg Value.bool (decide_eq_false c1))) rfl rfl rfl ?_
      refine L_q (Q_assign rfl) rfl rfl rfl ?_
      refine JL_nil ?_
      refine seqQ_normal ?_
      refine J_condF rfl ?_
      refine J_seq ?_
      refine J_region ?_
      refine L_q ((Q_eql rfl rfl).as (v' := .bool false) (congrArg Value.bool (decide_eq_false c2))) rfl rfl rfl ?_
      refine L_q (Q_assign rfl) rfl rfl rfl ?_
      refine JL_nil ?_
      refine seqQ_normal ?_
      refine J_condF rfl ?_
      refine J_seq ?_
      refine J_region ?_
      refine L_q ((Q_eql rfl rfl).as (v' := .bool true) (congrArg Value.bool (decide_eq_true c3))) rfl rfl rfl ?_
      refine L_q (Q_assign rfl) rfl rfl rfl ?_
      refine JL_nil ?_
      refine seqQ_normal ?_
      refine J_condT rfl ?_
      refine J_seq ?_
      refine J_region ?_
      refine L_q (Q_move rfl) rfl rfl rfl ?_
      refine L_q (Q_fa0 rfl) rfl rfl rfl ?_
      refine L_q (Q_ld 0 rfl rfl rfl rfl) rfl rfl rfl ?_
      refine L_o rfl rfl rfl (O_call [2,3,4] [0,1,5,6,7,8] hcr rfl rfl ?_)
      rintro _ _ ⟨ps2, rfl, hf2, rfl⟩
      refine JL.norm ?_
      refine JL_nil ?_
      refine seqQ_normal ?_
      refine J_region ?_
      refine L_q (Q_ldA 4 rfl rfl rfl) rfl rfl rfl ?_
      refine L_q (Q_fa0 rfl) rfl rfl rfl ?_
      refine L_q (Q_ld 3 rfl rfl rfl rfl) rfl rfl rfl ?_
      refine L_o rfl rfl rfl (O_call [5,6] [0,1,2,3,4,7,8] hrcr rfl rfl ?_)
      rintro _ _ ⟨X2, rs2, rfl, hfr2, hrn2, rfl⟩
      refine JL.norm ?_
      refine L_s rfl rfl (O_stW 6 rfl rfl rfl rfl ?_)
      refine JL.norm ?_
      refine JL_nil ?_
      refine blockQ_normal ?_
      refine seqQ_normal ?_
      refine J_seq ?_
      refine J.ent (Ent.re [6, 2, 3, 4, 0, 1, 7, 8] rfl) ?_
      refine J.have (p := X2.n = rs2.length) (fun w hs => (hs.rd 4 rfl).1) fun hXn => ?_
      have hfl : (rs2.length : Int) = ((g2).fs.length : Int) := by rw [← hfr2]; simp
      have d1 := first_g E p (g2) S ps2 _ hgd hf2
      have d2 := next_g E p (g2) S ps2 _ hgd (by omega) hf2
      have d3 := ssure_ok E p (g2).size (g2).sure S
      have d4 := files_g E p (g2) S ps2 hf2
      have q1 := rfirst_g E (g2) X2 rs2 hfr2
      have q2 := rnext_g E (g2) X2 rs2 _ hgd (by omega) hfr2 hrn2
      refine J_drawH [0] [0, 2, 4, 5, 6, 8, 10, 11, 12, 13, 15, 16, 17, 18, 19, 20, 22, 23, 24, 25, 26] (.quiet 0 (.quiet 2 (.loud 1 (.loud 3 (.quiet 4 (.quiet 5 (.quiet 6 (.quiet 8 (.loud 7 (.loud 9 (.quiet 10 (.quiet 11 (.quiet 12 (.quiet 13 (.quiet 15 (.quiet 16 (.loud 14 (.quiet 17 (.quiet 18 (.quiet 19 (.quiet 20 (.quiet 22 (.quiet 23 (.quiet 24 (.loud 21 (.quiet 25 (.quiet 26 .done))))))))))))))))))))))))))) Try.mixed (by kernel_rfl) (by kernel_rfl) (by repeat (first | exact retQ_noP | refine seqQ_noP ?_ | refine blockQ_noP ?_ | refine loopQ_noP ?_ | refine scopeQ_noP ?_)) ?_
      refine S_q (Ent.re [0] rfl) rfl (Q_move rfl) rfl rfl rfl ?_
      refine S_q (Ent.re [0] rfl) rfl (Q_ldA 0 rfl rfl rfl) rfl rfl rfl ?_
      refine S_o rfl rfl rfl rfl (O_call [1,2,3] [0,4,5,6,7] d1 rfl rfl ?_)
      (rintro _ _ ⟨rfl, rfl⟩; refine ⟨_, fun _ => ⟨Ent.reN [3] rfl, Ent.refl _⟩, ?_⟩)
      refine JS.norm ?_
      refine S_o rfl rfl rfl rfl (O_call [4] [0,1,2,3,5,6,7] q1 rfl rfl ?_)
      (rintro _ _ ⟨rfl, rfl⟩; refine ⟨_, fun _ => ⟨Ent.reN [4] rfl, Ent.refl _⟩, ?_⟩)
      refine JS.norm ?_
      refine S_q (Ent.re [4] rfl) rfl ((Q_neq rfl rfl).as (v' := .bool false) (congrArg Value.bool (decide_eq_false (by simp)))) rfl rfl rfl ?_
      refine S_q (Ent.re [4] rfl) rfl (Q_move rfl) rfl rfl rfl ?_
      refine S_q (Ent.re [4] rfl) rfl (Q_move rfl) rfl rfl rfl ?_
      refine S_q (Ent.re [4] rfl) rfl (Q_ldA 0 rfl rfl rfl) rfl rfl rfl ?_
      refine S_o rfl rfl rfl rfl (O_call [1,2,3] [0,4,5,6,7] d2 rfl rfl ?_)
      (rintro _ _ ⟨rfl, rfl⟩; refine ⟨_, fun _ => ⟨Ent.reN [4] rfl, Ent.refl _⟩, ?_⟩)
      refine JS.norm ?_
      refine S_o rfl rfl rfl rfl (O_call [3] [0,1,2,4,5,6,7] q2 rfl rfl ?_)
      (rintro _ _ ⟨rfl, rfl⟩; refine ⟨_, fun _ => ⟨Ent.reN [4] rfl, Ent.refl _⟩, ?_⟩)
      refine JS.norm ?_
      refine S_q (Ent.re [4] rfl) rfl ((Q_neq rfl rfl).as (v' := .bool false) (congrArg Value.bool (decide_eq_false (by simp)))) rfl rfl rfl ?_
      refine S_q (Ent.re [4] rfl) rfl (Q_pickF rfl rfl) rfl rfl rfl ?_
      refine S_q (Ent.re [4] rfl) rfl (Q_move rfl) rfl rfl rfl ?_
      refine S_q (Ent.re [4] rfl) rfl (Q_move rfl) rfl rfl rfl ?_
      refine S_q (Ent.re [4] rfl) rfl (Q_fa0 rfl) rfl rfl rfl ?_
      refine S_q (Ent.re [4] rfl) rfl (Q_ld 0 rfl rfl rfl rfl) rfl rfl rfl ?_
      refine S_o rfl rfl rfl rfl (O_call [1] [0,2,3,4,5,6,7] d3 rfl rfl ?_)
      (rintro _ _ ⟨rfl, rfl⟩; refine ⟨_, fun _ => ⟨Ent.reN [4] rfl, Ent.refl _⟩, ?_⟩)
      refine JS.norm ?_
      refine S_q (Ent.re [4] rfl) rfl ((Q_neq rfl rfl).as (v' := .bool false) (congrArg Value.bool (decide_eq_false (by simp)))) rfl rfl rfl ?_
      refine S_q (Ent.re [4] rfl) rfl (Q_pickF rfl rfl) rfl rfl rfl ?_
      refine S_q (Ent.re [4] rfl) rfl (Q_move rfl) rfl rfl rfl ?_
      refine S_q (Ent.re [4] rfl) rfl (Q_move rfl) rfl rfl rfl ?_
      refine S_q (Ent.re [4] rfl) rfl (Q_fa0 rfl) rfl rfl rfl ?_
      refine S_q (Ent.re [4] rfl) rfl (Q_ld 0 rfl rfl rfl rfl) rfl rfl rfl ?_
      refine S_q (Ent.re [4] rfl) rfl (Q_lenV (S := X2) rfl) rfl rfl rfl ?_
      refine S_o rfl rfl rfl rfl (O_call [0,2] [1,3,4,5,6,7] d4 rfl rfl ?_)
      (rintro _ _ ⟨rfl, rfl⟩; refine ⟨_, fun _ => ⟨Ent.reN [4] rfl, Ent.refl _⟩, ?_⟩)
      refine JS.norm ?_
      refine S_q (Ent.re [4] rfl) rfl ((Q_neq rfl rfl).as (v' := .bool false) (congrArg Value.bool (decide_eq_false (by omega)))) rfl rfl rfl ?_
      refine S_q (Ent.re [4] rfl) rfl (Q_pickF rfl rfl) rfl rfl rfl ?_
      refine S_nil ?_
      refine seqQ_normal ?_
      refine J_condF rfl ?_
      refine J_skip ?_
      refine blockQ_normal ?_
      refine seqQ_normal ?_
      refine J_region ?_
      refine L_q (Q_move rfl) rfl rfl rfl ?_
      refine L_q (Q_add rfl rfl (by first | exact IntWalk.i64_in _ (by omega) | exact IntWalk.u8_in _ (by omega) | exact IntWalk.u32_in _ (by omega) | exact IntWalk.u64_in _ (by omega) | rfl)) rfl rfl rfl ?_
      refine L_q (Q_assign rfl) rfl rfl rfl ?_
      refine JL_nil ?_
      exact loopQ_normal (k + 1, g2, S, ps2, X2, rs2) ⟨hf2, hfr2, hrn2, Good.mono hgd (by simp only; omega), hlt⟩ (by simp only; omega) ⟨rfl, rfl, rfl, rfl, trivial⟩ (Ent.re [4, 0, 1, 3, 2, 5, 6, 7] rfl)
    · skip
      refine J_region ?_
      refine L_q ((Q_eql rfl rfl).as (v' := .bool false) (congrArg Value.bool (decide_eq_false c0))) rfl rfl rfl ?_
      refine L_q (Q_assign rfl) rfl rfl rfl ?_
      refine JL_nil ?_
      refine seqQ_normal ?_
      refine J_condF rfl ?_
      refine J_seq ?_
      refine J_region ?_
      refine L_q ((Q_eql rfl rfl).as (v' := .bool false) (congrArg Value.bool (decide_eq_false c1))) rfl rfl rfl ?_
      refine L_q (Q_assign rfl) rfl rfl rfl ?_
      refine JL_nil ?_
      refine seqQ_normal ?_
      refine J_condF rfl ?_
      refine J_seq ?_
      refine J_region ?_
      refine L_q ((Q_eql rfl rfl).as (v' := .bool false) (congrArg Value.bool (decide_eq_false c2))) rfl rfl rfl ?_
      refine L_q (Q_assign rfl) rfl rfl rfl ?_
      refine JL_nil ?_
      refine seqQ_normal ?_
      refine J_condF rfl ?_
      refine J_seq ?_
      refine J_region ?_
      refine L_q ((Q_eql rfl rfl).as (v' := .bool false) (congrArg Value.bool (decide_eq_false c3))) rfl rfl rfl ?_
      refine L_q (Q_assign rfl) rfl rfl rfl ?_
      refine JL_nil ?_
      refine seqQ_normal ?_
      refine J_condF rfl ?_
      refine J_skip ?_
      refine blockQ_normal ?_
      refine seqQ_normal ?_
      refine J_seq ?_
      refine J.ent (Ent.re [1, 2, 3, 4, 5, 6, 7, 8] rfl) ?_
      refine J.have (p := X.n = rs.length) (fun w hs => (hs.rd 4 rfl).1) fun hXn => ?_
      have hfl : (rs.length : Int) = ((g).fs.length : Int) := by rw [← hfr]; simp
      have d1 := first_g E p (g) S ps _ hg hf
      have d2 := next_g E p (g) S ps _ hg (by omega) hf
      have d3 := ssure_ok E p (g).size (g).sure S
      have d4 := files_g E p (g) S ps hf
      have q1 := rfirst_g E (g) X rs hfr
      have q2 := rnext_g E (g) X rs _ hg (by omega) hfr hrn
      refine J_drawH [0] [0, 2, 4, 5, 6, 8, 10, 11, 12, 13, 15, 16, 17, 18, 19, 20, 22, 23, 24, 25, 26] (.quiet 0 (.quiet 2 (.loud 1 (.loud 3 (.quiet 4 (.quiet 5 (.quiet 6 (.quiet 8 (.loud 7 (.loud 9 (.quiet 10 (.quiet 11 (.quiet 12 (.quiet 13 (.quiet 15 (.quiet 16 (.loud 14 (.quiet 17 (.quiet 18 (.quiet 19 (.quiet 20 (.quiet 22 (.quiet 23 (.quiet 24 (.loud 21 (.quiet 25 (.quiet 26 .done))))))))))))))))))))))))))) Try.mixed (by kernel_rfl) (by kernel_rfl) (by repeat (first | exact retQ_noP | refine seqQ_noP ?_ | refine blockQ_noP ?_ | refine loopQ_noP ?_ | refine scopeQ_noP ?_)) ?_
      refine S_q (Ent.re [0] rfl) rfl (Q_move rfl) rfl rfl rfl ?_
      refine S_q (Ent.re [0] rfl) rfl (Q_ldA 0 rfl rfl rfl) rfl rfl rfl ?_
      refine S_o rfl rfl rfl rfl (O_call [1,2,3] [0,4,5,6,7] d1 rfl rfl ?_)
      (rintro _ _ ⟨rfl, rfl⟩; refine ⟨_, fun _ => ⟨Ent.reN [3] rfl, Ent.refl _⟩, ?_⟩)
      refine JS.norm ?_
      refine S_o rfl rfl rfl rfl (O_call [4] [0,1,2,3,5,6,7] q1 rfl rfl ?_)
      (rintro _ _ ⟨rfl, rfl⟩; refine ⟨_, fun _ => ⟨Ent.reN [4] rfl, Ent.refl _⟩, ?_⟩)
      refine JS.norm ?_
      refine S_q (Ent.re [4] rfl) rfl ((Q_neq rfl rfl).as (v' := .bool false) (congrArg Value.bool (decide_eq_false (by simp)))) rfl rfl rfl ?_
      refine S_q (Ent.re [4] rfl) rfl (Q_move rfl) rfl rfl rfl ?_
      refine S_q (Ent.re [4] rfl) rfl (Q_move rfl) rfl rfl rfl ?_
      refine S_q (Ent.re [4] rfl) rfl (Q_ldA 0 rfl rfl rfl) rfl rfl rfl ?_
      refine S_o rfl rfl rfl rfl (O_call [1,2,3] [0,4,5,6,7] d2 rfl rfl ?_)
      (rintro _ _ ⟨rfl, rfl⟩; refine ⟨_, fun _ => ⟨Ent.reN [4] rfl, Ent.refl _⟩, ?_⟩)
      refine JS.norm ?_
      refine S_o rfl rfl rfl rfl (O_call [3] [0,1,2,4,5,6,7] q2 rfl rfl ?_)
      (rintro _ _ ⟨rfl, rfl⟩; refine ⟨_, fun _ => ⟨Ent.reN [4] rfl, Ent.refl _⟩, ?_⟩)
      refine JS.norm ?_
      refine S_q (Ent.re [4] rfl) rfl ((Q_neq rfl rfl).as (v' := .bool false) (congrArg Value.bool (decide_eq_false (by simp)))) rfl rfl rfl ?_
      refine S_q (Ent.re [4] rfl) rfl (Q_pickF rfl rfl) rfl rfl rfl ?_
      refine S_q (Ent.re [4] rfl) rfl (Q_move rfl) rfl rfl rfl ?_
      refine S_q (Ent.re [4] rfl) rfl (Q_move rfl) rfl rfl rfl ?_
      refine S_q (Ent.re [4] rfl) rfl (Q_fa0 rfl) rfl rfl rfl ?_
      refine S_q (Ent.re [4] rfl) rfl (Q_ld 0 rfl rfl rfl rfl) rfl rfl rfl ?_
      refine S_o rfl rfl rfl rfl (O_call [1] [0,2,3,4,5,6,7] d3 rfl rfl ?_)
      (rintro _ _ ⟨rfl, rfl⟩; refine ⟨_, fun _ => ⟨Ent.reN [4] rfl, Ent.refl _⟩, ?_⟩)
      refine JS.norm ?_
      refine S_q (Ent.re [4] rfl) rfl ((Q_neq rfl rfl).as (v' := .bool false) (congrArg Value.bool (decide_eq_false (by simp)))) rfl rfl rfl ?_
      refine S_q (Ent.re [4] rfl) rfl (Q_pickF rfl rfl) rfl rfl rfl ?_
      refine S_q (Ent.re [4] rfl) rfl (Q_move rfl) rfl rfl rfl ?_
      refine S_q (Ent.re [4] rfl) rfl (Q_move rfl) rfl rfl rfl ?_
      refine S_q (Ent.re [4] rfl) rfl (Q_fa0 rfl) rfl rfl rfl ?_
      refine S_q (Ent.re [4] rfl) rfl (Q_ld 0 rfl rfl rfl rfl) rfl rfl rfl ?_
      refine S_q (Ent.re [4] rfl) rfl (Q_lenV (S := X) rfl) rfl rfl rfl ?_
      refine S_o rfl rfl rfl rfl (O_call [0,2] [1,3,4,5,6,7] d4 rfl rfl ?_)
      (rintro _ _ ⟨rfl, rfl⟩; refine ⟨_, fun _ => ⟨Ent.reN [4] rfl, Ent.refl _⟩, ?_⟩)
      refine JS.norm ?_
      refine S_q (Ent.re [4] rfl) rfl ((Q_neq rfl rfl).as (v' := .bool false) (congrArg Value.bool (decide_eq_false (by omega)))) rfl rfl rfl ?_
      refine S_q (Ent.re [4] rfl) rfl (Q_pickF rfl rfl) rfl rfl rfl ?_
      refine S_nil ?_
      refine seqQ_normal ?_
      refine J_condF rfl ?_
      refine J_skip ?_
      refine blockQ_normal ?_
      refine seqQ_normal ?_
      refine J_region ?_
      refine L_q (Q_move rfl) rfl rfl rfl ?_
      refine L_q (Q_add rfl rfl (by first | exact IntWalk.i64_in _ (by omega) | exact IntWalk.u8_in _ (by omega) | exact IntWalk.u32_in _ (by omega) | exact IntWalk.u64_in _ (by omega) | rfl)) rfl rfl rfl ?_
      refine L_q (Q_assign rfl) rfl rfl rfl ?_
      refine JL_nil ?_
      exact loopQ_normal (k + 1, g, S, ps, X, rs) ⟨hf, hfr, hrn, Good.mono hg (by simp only; omega), hlt⟩ (by simp only; omega) ⟨rfl, rfl, rfl, rfl, trivial⟩ (Ent.re [4, 0, 1, 3, 2, 5, 6, 7] rfl)
  · have hn := hg.next
    have hfn := first_le_next g.fs hg.ch
    have q1 := rfirst_g E g X rs hfr
    have q2 := rnext_g E g X rs _ hg (by omega) hfr hrn
    have d4 := fun i => get_g E p g S ps _ i hg (by omega) hf
    have q4 := fun i hi => rget_g E g X rs _ i hg (by omega) hfr hrn hi
    refine J_exit ?_
    refine seqQ_exit ?_
    refine loopQ_exit ?_
    refine blockQ_hit ?_
    refine seqQ_normal ?_
    refine J_seq ?_
    refine J_seq ?_
    refine J_region ?_
    refine L_q (Q_ldA 0 rfl rfl rfl) rfl rfl rfl ?_
    refine L_o rfl rfl rfl (O_call [4] [0,1,2,3,5,6,7] q1 rfl rfl ?_)
    rintro _ _ ⟨rfl, rfl⟩
    refine JL.norm ?_
    refine L_q (Q_sub rfl rfl (by first | exact IntWalk.i64_in _ (by omega) | exact IntWalk.u8_in _ (by omega) | exact IntWalk.u32_in _ (by omega) | exact IntWalk.u64_in _ (by omega) | rfl)) rfl rfl rfl ?_
    refine L_q (Q_assign rfl) rfl rfl rfl ?_
    refine JL_nil ?_
    refine seqQ_normal ?_
    refine J_block ?_
    refine J_loop (fun j : Nat => (firstOf g.fs : Int) - 1 + j ≤ (nextOf g.fs : Int) + 1) (fun j => [(5, .pointer (some ⟨p, 0, none⟩)), (6, .pointer (some ⟨b6, 0, none⟩)), (16, .int .i64 ((firstOf g.fs : Int) - 1 + j))])
      (fun _ => [cel b6 [.int .i64 (g.size : Int), .int .i64 (g.sure : Int), X.v] 29, segC p g.size g.sure S, slc tPf true S ps, fsC ps, slc tF true X rs, rowsC rs, F]) (fun j => nextOf g.fs + 2 - (firstOf g.fs + j)) 0 (by omega) ⟨rfl, rfl, by simp only [Int.natCast_zero, Int.add_zero]; rfl, trivial⟩ (Ent.re [1, 2, 3, 4, 0, 5, 7] rfl) ?_
    intro j hj
    refine J_seq ?_
    refine J_seq ?_
    refine J_region ?_
    refine L_q (Q_move rfl) rfl rfl rfl ?_
    refine L_q (Q_ldA 0 rfl rfl rfl) rfl rfl rfl ?_
    refine L_o rfl rfl rfl (O_call [4] [0,1,2,3,5,6] q2 rfl rfl ?_)
    rintro _ _ ⟨rfl, rfl⟩
    refine JL.norm ?_
    refine L_q (Q_leq rfl rfl) rfl rfl rfl ?_
    refine JL_nil ?_
    refine seqQ_normal ?_
    refine J_condD rfl (fun h3 => ?_) (fun h3 => ?_)
    · have hgv : getV g.fs ((firstOf g.fs : Int) - 1 + j) = .tuple #[str (getL g.fs ((firstOf g.fs : Int) - 1 + j)).1, .int .i64 (getL g.fs ((firstOf g.fs : Int) - 1 + j)).2] := rfl
      have d5 := d4 ((firstOf g.fs : Int) - 1 + j)
      have q5 := q4 ((firstOf g.fs : Int) - 1 + j) (by omega)
      rw [hgv] at d5 q5
      generalize (getL g.fs ((firstOf g.fs : Int) - 1 + j)).1 = t1 at *
      generalize (getL g.fs ((firstOf g.fs : Int) - 1 + j)).2 = e1 at *
      refine J_skip ?_
      refine seqQ_normal ?_
      refine J_seq ?_
      refine J_block ?_
      refine J_seq ?_
      refine J_region ?_
      refine L_q (Q_move rfl) rfl rfl rfl ?_
      refine L_q (Q_move rfl) rfl rfl rfl ?_
      refine L_o rfl rfl rfl (O_call [2,3,4] [0,1,5,6] d5 rfl rfl ?_)
      rintro _ _ ⟨rfl, rfl⟩
      refine JL.norm ?_
      refine L_q (Q_move rfl) rfl rfl rfl ?_
      refine L_q (Q_extract (v := str t1) rfl rfl) rfl rfl rfl ?_
      refine L_q (Q_extract (v := .int .i64 e1) rfl rfl) rfl rfl rfl ?_
      refine L_q (Q_assign rfl) rfl rfl rfl ?_
      refine L_q (Q_assign rfl) rfl rfl rfl ?_
      refine JL_nil ?_
      refine seqQ_normal ?_
      refine J_seq ?_
      refine J_region ?_
      refine L_q (Q_ldA 4 rfl rfl rfl) rfl rfl rfl ?_
      refine L_q (Q_move rfl) rfl rfl rfl ?_
      refine L_o rfl rfl rfl (O_call [3,5] [0,1,2,4,6] q5 rfl rfl ?_)
      rintro _ _ ⟨rfl, rfl⟩
      refine JL.norm ?_
      refine L_q (Q_move rfl) rfl rfl rfl ?_
      refine L_q (Q_extract (v := str t1) rfl rfl) rfl rfl rfl ?_
      refine L_q (Q_extract (v := .int .i64 e1) rfl rfl) rfl rfl rfl ?_
      refine L_q (Q_assign rfl) rfl rfl rfl ?_
      refine L_q (Q_assign rfl) rfl rfl rfl ?_
      refine JL_nil ?_
      refine seqQ_normal ?_
      refine J_seq ?_
      refine J_region ?_
      refine L_q (Q_move rfl) rfl rfl rfl ?_
      refine L_q (Q_move rfl) rfl rfl rfl ?_
      refine L_q ((Q_sneq rfl rfl).as (v' := .bool false) (congrArg Value.bool (decide_eq_false (by simp)))) rfl rfl rfl ?_
      refine L_q (Q_move rfl) rfl rfl rfl ?_
      refine L_q (Q_move rfl) rfl rfl rfl ?_
      refine L_q (Q_move rfl) rfl rfl rfl ?_
      refine L_q ((Q_neq rfl rfl).as (v' := .bool false) (congrArg Value.bool (decide_eq_false (by simp)))) rfl rfl rfl ?_
      refine L_q (Q_pickF rfl rfl) rfl rfl rfl ?_
      refine JL_nil ?_
      refine seqQ_normal ?_
      refine J_condF rfl ?_
      refine J_skip ?_
      refine blockQ_normal ?_
      refine seqQ_normal ?_
      refine J_region ?_
      refine L_q (Q_move rfl) rfl rfl rfl ?_
      refine L_q (Q_add rfl rfl (by first | exact IntWalk.i64_in _ (by omega) | exact IntWalk.u8_in _ (by omega) | exact IntWalk.u32_in _ (by omega) | exact IntWalk.u64_in _ (by omega) | rfl)) rfl rfl rfl ?_
      refine L_q (Q_assign rfl) rfl rfl rfl ?_
      refine JL_nil ?_
      exact loopQ_normal (j + 1) (by omega) (by omega) ⟨rfl, rfl, by simp only [Int.natCast_add, Int.natCast_one, ← Int.add_assoc]; rfl, trivial⟩ (Ent.re [5, 2, 3, 4, 0, 1, 6] rfl)
    · refine J_exit ?_
      refine seqQ_exit ?_
      refine loopQ_exit ?_
      refine blockQ_hit ?_
      refine seqQ_normal ?_
      refine J_seq ?_
      refine J_region ?_
      refine L_o rfl rfl rfl (O_call [] [0,1,2,3,4,5,6] (awake_ok E) rfl rfl ?_)
      rintro _ _ ⟨rfl, rfl⟩
      refine JL.norm ?_
      refine L_q (Q_assign rfl) rfl rfl rfl ?_
      refine JL_nil ?_
      refine seqQ_normal ?_
      refine J_ret ?_
      exact retQ_ret _ [] (.cons (RV_tmp rfl) .nil) ⟨rfl, rfl⟩ (Ent.re [6] rfl)
end Go.Proofs
