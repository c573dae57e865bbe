/- Part 24 of the texts below the row: Sto50, Law50a. -/
import Derived.Test.YtgifbeecmidciaaGreatM23
/- The law TopStore: its walk. -/
set_option autoImplicit false
namespace Go.Proofs
open Go.SL Go.Proofs.Bt
theorem rngL_len5 (l : List Kv) (f to : Ky) (most : Int) : (rngL l f to most).length ≤ l.length := by
 unfold rngL
 split
 ·simp
 ·have := runR_len to most (flF f l) []
  have h2 : (flF f l).length ≤ l.length := List.length_filter_le ..
  simp only [List.length_nil] at this
  omega
structure Sy where
 k : Nat
 A : Kst
 B : Kst
 bA : List Kv
 bB : List Kv
 nA : Nat
 nB : Nat
attribute [local irreducible] J JL QOp JOp seqQ blockQ loopQ retQ slc cel hex star pur stars Does RV Ent pAt scopeQ
attribute [local irreducible] nodeA nodeX treeA segA snapA kvA votA agL zer63 bz122 foL folM mapC bz78 fol0
theorem store_ok (E : World) (z : Int) (T : SV) (l : List Dv) (hks : ∀ d ∈ l, d.keep < 2 ^ 64) : Does Tryz.prog E 4 [.int .i64 z, T.v] [slc tDv false T l] fun v L => v = .bool true ∧ L = [] := by
 have hfew := fewV_ok E T l
 refine Does.of Tryz.func4 rfl Tryz.ntmps4 rfl rfl fun F => ?_
 refine J.norm ?_
 cases hb : fewV l with
 | false =>
  rw [fewW_f hb] at hfew
  refine Sr ?_
  refine Lq (Q_assign rfl) ?_
  refine Ln ?_
  refine J_seq ?_
  refine Sr ?_
  refine Lq (Q_move rfl) ?_
  refine L_o rfl rfl rfl (O_call [0] [1] hfew rfl rfl ?_)
  rintro _ _ ⟨rfl, rfl⟩
  refine JL.norm ?_
  refine Lq ((Q_eql rfl rfl).as (v' := .bool true) rfl) ?_
  refine Ln ?_
  refine J_condT rfl ?_
  refine Sr ?_
  refine L_o rfl rfl rfl (O_call [] [0,1] (alone_ok E) rfl rfl ?_)
  rintro _ _ ⟨rfl, rfl⟩
  refine JL.norm ?_
  refine Lq (Q_assign rfl) ?_
  refine Ln ?_
  refine J_ret ?_
  refine seqQ_ret ?_
  exact retQ_ret _ [] (.cons (RV_tmp rfl) .nil) ⟨rfl, rfl⟩ (Ent.re [1] rfl)
 | true =>
 rw [fewW_t hb] at hfew
 have hl60 := (fewV_text hb).1
 refine Sr ?_
 refine Lq (Q_assign rfl) ?_
 refine Ln ?_
 refine J_seq ?_
 refine Sr ?_
 refine Lq (Q_move rfl) ?_
 refine L_o rfl rfl rfl (O_call [0] [1] hfew rfl rfl ?_)
 rintro _ _ ⟨rfl, rfl⟩
 refine JL.norm ?_
 refine Lq ((Q_eql rfl rfl).as (v' := .bool false) rfl) ?_
 refine Ln ?_
 refine J_condF rfl ?_
 refine J_skip ?_
 refine seqQ_normal ?_
 refine Sr ?_
 refine Lq (Q_move rfl) ?_
 refine L_o rfl rfl rfl (O_call [] [0,1] (anew_ok E z) rfl rfl ?_)
 rintro _ _ ⟨pa, rfl, rfl⟩
 refine JL.norm ?_
 refine Lq (Q_move rfl) ?_
 refine L_o rfl rfl rfl (O_call [] [0,1,2] (anew_ok E z) rfl rfl ?_)
 rintro _ _ ⟨pb, rfl, rfl⟩
 refine JL.norm ?_
 refine Lq (Q_assign rfl) ?_
 refine Lq (Q_assign rfl) ?_
 refine Ln ?_
 refine J_seq ?_
 refine Sr ?_
 refine Lq (Q_assign rfl) ?_
 refine Ln ?_
 refine J_block ?_
 refine J_loop (fun i : Sy => Inv i.A i.bA i.nA i.k ∧ Inv i.B i.bB i.nB (9000 * i.k) ∧ Sim i.A i.B ∧ i.nA ≤ i.k ∧ i.nB ≤ i.k ∧ i.k ≤ l.length) (fun i => [(1, T.v), (5, .pointer (some ⟨pa, 0, none⟩)), (6, .pointer (some ⟨pb, 0, none⟩)), (7, .int .i64 (i.k : Int))]) (fun i => [kvA pa i.A, kvA pb i.B, slc tDv false T l, F]) (fun i => l.length - i.k) ⟨0, newK z, newK z, [], [], 0, 0⟩ ⟨inv_new z, inv_new z, sim_refl _, Nat.zero_le _, Nat.zero_le _, Nat.zero_le _⟩ ⟨rfl, rfl, rfl, rfl, trivial⟩ (Ent.re [1,0,2,3] rfl) ?_
 rintro ⟨k, A, B, bA, bB, nA, nB⟩ ⟨hA, hB, hS, hnA, hnB, hk⟩
 dsimp only at hA hB hS hnA hnB hk ⊢
 refine J_seq ?_
 refine Sr ?_
 refine Lq (Q_move rfl) ?_
 refine Lq (Q_move rfl) ?_
 refine Lq (Q_lenAt 2 rfl rfl) ?_
 refine Lq (Q_lss rfl rfl) ?_
 refine Ln ?_
 refine J_condD rfl (fun h2 => ?_) (fun h2 => ?_)
 ·have hlt : k < l.length := by omega
  have hkp := hks l[k] (List.getElem_mem hlt)
  refine J_skip ?_
  refine seqQ_normal ?_
  refine J_seq ?_
  refine J_block ?_
  refine Sr ?_
  refine Lq (Q_assign rfl) ?_
  refine Lq (Q_assign rfl) ?_
  refine Ln ?_
  refine J_seq ?_
  refine Sr ?_
  refine Lq (Q_move rfl) ?_
  refine Lq (Q_move rfl) ?_
  refine Lq (Q_ixAt 2 k rfl rfl rfl rfl hlt rfl) ?_
  refine Lq (Q_ldEAAt 2 k 0 (vs := dvV l[k]) rfl rfl rfl rfl hlt (by decide) rfl) ?_
  refine L_o rfl rfl rfl (O_alloc fun b10 => ?_)
  refine L_s rfl rfl (O_stW 0 rfl rfl rfl rfl ?_)
  refine JL.norm ?_
  refine Ln ?_
  refine Sr ?_
  refine Lq (Q_fa0 rfl) ?_
  refine Lq (Q_ld 0 rfl rfl rfl rfl) ?_
  refine Ln ?_
  refine J_block ?_
  refine J_seq ?_
  refine J.cut (fun e ρ' L' => e = .normal ∧ ∃ (A2 B2 : Kst) (bA2 bB2 : List Kv) (nA2 nB2 : Nat) (ee : Int), Inv A2 bA2 nA2 (k + 1) ∧ Inv B2 bB2 nB2 (9000 * k + 1) ∧ Sim A2 B2 ∧ nA2 ≤ k + 1 ∧ nB2 ≤ k + 1 ∧ envSub [(1, T.v), (5, .pointer (some ⟨pa, 0, none⟩)), (6, .pointer (some ⟨pb, 0, none⟩)), (7, .int .i64 (k : Int)), (8, .int .i64 ee), (9, .int .i64 ee)] ρ' ∧ Ent L' [kvA pa A2, kvA pb B2, slc tDv false T l, F]) ?_ ?_
  ·by_cases c0 : l[k].kind = 0
   ·obtain ⟨s1, s2⟩ := hS.put l[k].key l[k].val
    have hb2 := aput_ok E pb hB (by omega) l[k].key l[k].val
    rw [← s1] at hb2
    refine J_region ?_
    refine Lq ((Q_eql rfl rfl).as (v' := .bool true) (congrArg Value.bool (decide_eq_true c0))) ?_
    refine Lq (Q_assign rfl) ?_
    refine Ln ?_
    refine J_condT rfl ?_
    refine DH [0] [0,1,2,3,4,6,7,8,9,10,12,13] (.quiet 0 (.quiet 1 (.quiet 2 (.quiet 3 (.quiet 4 (.quiet 6 (.quiet 7 (.quiet 8 (.quiet 9 (.quiet 10 (.loud 5 (.loud 11 (.quiet 12 (.quiet 13 .done)))))))))))))) Tryz.mixed ?_
    refine Sq (Ent.re [0] rfl) rfl (Q_move rfl) ?_
    refine Sq (Ent.re [0] rfl) rfl (Q_fa0 rfl) ?_
    refine Sq (Ent.re [0] rfl) rfl (Q_ld 0 rfl rfl rfl rfl) ?_
    refine Sq (Ent.re [0] rfl) rfl (Q_fa0 rfl) ?_
    refine Sq (Ent.re [0] rfl) rfl (Q_ld 0 rfl rfl rfl rfl) ?_
    refine Sq (Ent.re [0] rfl) rfl (Q_move rfl) ?_
    refine Sq (Ent.re [0] rfl) rfl (Q_fa0 rfl) ?_
    refine Sq (Ent.re [0] rfl) rfl (Q_ld 0 rfl rfl rfl rfl) ?_
    refine Sq (Ent.re [0] rfl) rfl (Q_fa0 rfl) ?_
    refine Sq (Ent.re [0] rfl) rfl (Q_ld 0 rfl rfl rfl rfl) ?_
    refine S_o rfl rfl rfl rfl (O_call [1] [0,2,3,4] (aput_ok E pa hA (by omega) l[k].key l[k].val) rfl rfl ?_)
    (rintro _ _ ⟨rfl, rfl⟩; refine ⟨_, fun _ => ⟨Ent.reN [1] rfl, Ent.refl _⟩, ?_⟩)
    refine JS.norm ?_
    refine S_o rfl rfl rfl rfl (O_call [2] [0,1,3,4] hb2 rfl rfl ?_)
    (rintro _ _ ⟨rfl, rfl⟩; refine ⟨_, fun _ => ⟨Ent.reN [2] rfl, Ent.refl _⟩, ?_⟩)
    refine JS.norm ?_
    refine Sq (Ent.re [2] rfl) rfl (Q_assign rfl) ?_
    refine Sq (Ent.re [2] rfl) rfl (Q_assign rfl) ?_
    refine S_nil ?_
    refine blockQ_normal ?_
    exact ⟨rfl, _, _, _, _, _, _, _, hA.put _ _, (hB.put _ _), s2, by omega, by omega, ⟨rfl, rfl, rfl, rfl, rfl, rfl, trivial⟩, Ent.re [1,0,3,4] rfl⟩
   by_cases c1 : l[k].kind = 1
   ·obtain ⟨s1, s2⟩ := hS.del l[k].key
    have hb2 := adel_ok E pb hB (by omega) l[k].key
    rw [← s1] at hb2
    refine J_region ?_
    refine Lq ((Q_eql rfl rfl).as (v' := .bool false) (congrArg Value.bool (decide_eq_false c0))) ?_
    refine Lq (Q_assign rfl) ?_
    refine Ln ?_
    refine J_condF rfl ?_
    refine Sr ?_
    refine Lq ((Q_eql rfl rfl).as (v' := .bool true) (congrArg Value.bool (decide_eq_true c1))) ?_
    refine Lq (Q_assign rfl) ?_
    refine Ln ?_
    refine J_condT rfl ?_
    refine DH [0] [0,1,2,4,5,6,8,9] (.quiet 0 (.quiet 1 (.quiet 2 (.quiet 4 (.quiet 5 (.quiet 6 (.loud 3 (.loud 7 (.quiet 8 (.quiet 9 .done)))))))))) Tryz.mixed ?_
    refine Sq (Ent.re [0] rfl) rfl (Q_move rfl) ?_
    refine Sq (Ent.re [0] rfl) rfl (Q_fa0 rfl) ?_
    refine Sq (Ent.re [0] rfl) rfl (Q_ld 0 rfl rfl rfl rfl) ?_
    refine Sq (Ent.re [0] rfl) rfl (Q_move rfl) ?_
    refine Sq (Ent.re [0] rfl) rfl (Q_fa0 rfl) ?_
    refine Sq (Ent.re [0] rfl) rfl (Q_ld 0 rfl rfl rfl rfl) ?_
    refine S_o rfl rfl rfl rfl (O_call [1] [0,2,3,4] (adel_ok E pa hA (by omega) l[k].key) rfl rfl ?_)
    (rintro _ _ ⟨rfl, rfl⟩; refine ⟨_, fun _ => ⟨Ent.reN [1] rfl, Ent.refl _⟩, ?_⟩)
    refine JS.norm ?_
    refine S_o rfl rfl rfl rfl (O_call [2] [0,1,3,4] hb2 rfl rfl ?_)
    (rintro _ _ ⟨rfl, rfl⟩; refine ⟨_, fun _ => ⟨Ent.reN [2] rfl, Ent.refl _⟩, ?_⟩)
    refine JS.norm ?_
    refine Sq (Ent.re [2] rfl) rfl (Q_assign rfl) ?_
    refine Sq (Ent.re [2] rfl) rfl (Q_assign rfl) ?_
    refine S_nil ?_
    refine blockQ_normal ?_
    exact ⟨rfl, _, _, _, _, _, _, _, hA.del _, (hB.del _), s2, by omega, by omega, ⟨rfl, rfl, rfl, rfl, rfl, rfl, trivial⟩, Ent.re [1,0,3,4] rfl⟩
   by_cases c3 : l[k].kind = 3
   ·obtain ⟨bA2, nA2, hA2, hnA2, _⟩ := hA.cp (-1) (by omega)
    obtain ⟨bB2, nB2, hB2, hnB2, _⟩ := hB.cp (-1) (by omega)
    refine J_region ?_
    refine Lq ((Q_eql rfl rfl).as (v' := .bool false) (congrArg Value.bool (decide_eq_false c0))) ?_
    refine Lq (Q_assign rfl) ?_
    refine Ln ?_
    refine J_condF rfl ?_
    refine Sr ?_
    refine Lq ((Q_eql rfl rfl).as (v' := .bool false) (congrArg Value.bool (decide_eq_false c1))) ?_
    refine Lq (Q_assign rfl) ?_
    refine Ln ?_
    refine J_condF rfl ?_
    refine Sr ?_
    refine Lq ((Q_eql rfl rfl).as (v' := .bool true) (congrArg Value.bool (decide_eq_true c3))) ?_
    refine Lq (Q_assign rfl) ?_
    refine Ln ?_
    refine J_condT rfl ?_
    refine Sr ?_
    refine Lq (Q_move rfl) ?_
    refine L_o rfl rfl rfl (O_call [1] [0,2,3,4] (acp_ok E pa hA (by omega) (-1)) rfl rfl ?_)
    rintro _ _ ⟨rfl, rfl⟩
    refine JL.norm ?_
    refine Ln ?_
    refine J_region ?_
    refine Lq (Q_move rfl) ?_
    refine L_o rfl rfl rfl (O_call [2] [0,1,3,4] (acp_ok E pb hB (by omega) (-1)) rfl rfl ?_)
    rintro _ _ ⟨rfl, rfl⟩
    refine JL.norm ?_
    refine JL_nil ?_
    refine blockQ_normal ?_
    exact ⟨rfl, _, _, _, _, _, _, 0, hA2.mono (by omega), hB2.mono (by omega), hS.cp (-1), by omega, by omega, ⟨rfl, rfl, rfl, rfl, rfl, rfl, trivial⟩, Ent.re [1,0,3,4] rfl⟩
   ·skip
    refine J_region ?_
    refine Lq ((Q_eql rfl rfl).as (v' := .bool false) (congrArg Value.bool (decide_eq_false c0))) ?_
    refine Lq (Q_assign rfl) ?_
    refine Ln ?_
    refine J_condF rfl ?_
    refine Sr ?_
    refine Lq ((Q_eql rfl rfl).as (v' := .bool false) (congrArg Value.bool (decide_eq_false c1))) ?_
    refine Lq (Q_assign rfl) ?_
    refine Ln ?_
    refine J_condF rfl ?_
    refine Sr ?_
    refine Lq ((Q_eql rfl rfl).as (v' := .bool false) (congrArg Value.bool (decide_eq_false c3))) ?_
    refine Lq (Q_assign rfl) ?_
    refine Ln ?_
    refine J_condF rfl ?_
    refine J_skip ?_
    refine blockQ_normal ?_
    exact ⟨rfl, _, _, _, _, _, _, 0, hA.mono (by omega), hB.mono (by omega), hS, by omega, by omega, ⟨rfl, rfl, rfl, rfl, rfl, rfl, trivial⟩, Ent.re [1,2,3,4] rfl⟩
  rintro _ ρ' L' ⟨rfl, A2, B2, bA2, bB2, nA2, nB2, ee, hA2, hB2, hS2, hnA2, hnB2, hsub, hent⟩
  refine seqQ_normal ?_
  refine J.sub hsub ?_
  refine J.ent hent ?_
  clear hsub hent
  have hBs := hB2.sync
  have hBc := hBs.crash l[k].keep
  have hS3 := hS2.crash hB2 l[k].keep
  have hq1 := aseq_ok E pa hA2 (by omega)
  have hq2 := aseq_ok E pb hBc (by omega)
  rw [← hS3.next] at hq2
  refine Sr ?_
  refine Lq (Q_move rfl) ?_
  refine L_o rfl rfl rfl (O_call [1] [0,2,3] (async_ok E pb hB2 (by omega)) rfl rfl ?_)
  rintro _ _ ⟨rfl, rfl⟩
  refine JL.norm ?_
  refine Ln ?_
  refine Sr ?_
  refine Lq (Q_move rfl) ?_
  refine Lq (Q_move rfl) ?_
  refine Lq (Q_move rfl) ?_
  refine Lq (Q_ixAt 2 k rfl rfl rfl rfl hlt rfl) ?_
  refine Lq (Q_pfa rfl) ?_
  refine Lq (Q_ldEAt 2 k 4 (v := .int .u64 (l[k].keep : Int)) rfl rfl rfl rfl hlt (by decide) rfl) ?_
  refine L_o rfl rfl rfl (O_call [0] [1,2,3] (acrash_ok E pb hBs (by omega) l[k].keep hkp) rfl rfl ?_)
  rintro _ _ ⟨rfl, rfl⟩
  refine JL.norm ?_
  refine Ln ?_
  refine Sr ?_
  refine Lq (Q_move rfl) ?_
  refine Lq (Q_move rfl) ?_
  refine Lq ((Q_neq rfl rfl).as (v' := .bool false) (congrArg Value.bool (decide_eq_false (by simp)))) ?_
  refine Lq (Q_move rfl) ?_
  refine Lq (Q_move rfl) ?_
  refine L_o rfl rfl rfl (O_call [1] [0,2,3] hq1 rfl rfl ?_)
  rintro _ _ ⟨rfl, rfl⟩
  refine JL.norm ?_
  refine Lq (Q_move rfl) ?_
  refine L_o rfl rfl rfl (O_call [1] [0,2,3] hq2 rfl rfl ?_)
  rintro _ _ ⟨rfl, rfl⟩
  refine JL.norm ?_
  refine Lq ((Q_neq rfl rfl).as (v' := .bool false) (congrArg Value.bool (decide_eq_false (by simp)))) ?_
  refine Lq (Q_pickF rfl rfl) ?_
  refine Ln ?_
  refine J_condF rfl ?_
  refine J_skip ?_
  refine blockQ_normal ?_
  refine seqQ_normal ?_
  refine J_region ?_
  refine Lq (Q_move rfl) ?_
  refine Lq (Q_add rfl rfl (by first | exact IntWalk.i64_in _ (by omega) | exact IntWalk.u8_in _ (by omega) | exact IntWalk.u32_in _ (by omega) | exact IntWalk.u64_in _ (by omega) | rfl)) ?_
  refine Lq (Q_assign rfl) ?_
  refine JL_nil ?_
  exact loopQ_normal ⟨k + 1, A2, crashK (syncK B2) bB2 l[k].keep, bA2, bB2, nA2, nB2⟩ ⟨hA2, hBc.mono (by show 9000 * k + 1 + 8192 ≤ 9000 * (k + 1); omega), hS3, hnA2, hnB2, hlt⟩ (by show l.length - (k + 1) < l.length - k; omega) ⟨rfl, rfl, rfl, rfl, trivial⟩ (Ent.re [1,0,2,3] rfl)
 ·have hlen := hB.len
  have hr1 := arange_ok E pa hA [] [] 1000
  rw [hS.t] at hr1
  have hr2 := arange_ok E pb hB [] [] 1000
  have hrl := rngL_len5 B.t [] [] 1000
  have hsm := fun S S2 => rsame38_ok E (slc tKv true S (rngL B.t [] [] 1000)) S S2 (rngL B.t [] [] 1000) Rdy.slc (by omega)
  refine J_exit ?_
  refine seqQ_exit ?_
  refine loopQ_exit ?_
  refine blockQ_hit ?_
  refine seqQ_normal ?_
  refine Sr ?_
  refine Lq (Q_move rfl) ?_
  refine L_o rfl rfl rfl (O_call [0] [1,2,3] hr1 rfl rfl ?_)
  rintro _ _ ⟨S1, rfl, rfl⟩
  refine JL.norm ?_
  refine Lq (Q_move rfl) ?_
  refine L_o rfl rfl rfl (O_call [2] [0,1,3,4] hr2 rfl rfl ?_)
  rintro _ _ ⟨S2, rfl, rfl⟩
  refine JL.norm ?_
  refine L_o rfl rfl rfl (O_call [3,1] [0,2,4,5] (hsm S2 S1) rfl rfl ?_)
  rintro _ _ ⟨rfl, rfl⟩
  refine JL.norm ?_
  refine Lq (Q_move rfl) ?_
  refine L_o rfl rfl rfl (O_call [] [0,1,2,3,4,5] (alone_ok E) rfl rfl ?_)
  rintro _ _ ⟨rfl, rfl⟩
  refine JL.norm ?_
  refine Lq (Q_pickT rfl rfl) ?_
  refine Lq (Q_assign rfl) ?_
  refine Ln ?_
  refine J_ret ?_
  exact retQ_ret _ [] (.cons (RV_tmp rfl) .nil) ⟨rfl, rfl⟩ (Ent.re [5] rfl)
end Go.Proofs
/- The law TopStore, from its arguments' readings. -/
set_option autoImplicit false
namespace Go.Proofs
open Go.SL Go.RowKit Go.Proofs.Bt
def lsDv : List Leaf := [.int .i64, .int .i64, .str, .str, .int .u64]
theorem dv_in {vs : List Value} (h : LeafsOk lsDv vs) : ∃ d : Dv, vs = tDv.enc d ∧ d.keep < 2 ^ 64 := by
 obtain ⟨a, r, rfl, _, h⟩ := leafs_int h
 obtain ⟨b, r, rfl, _, h⟩ := leafs_int h
 obtain ⟨s, r, rfl, _, h⟩ := leafs_str h
 obtain ⟨t, r, rfl, _, h⟩ := leafs_str h
 obtain ⟨c, r, rfl, hc, h⟩ := leafs_int h
 obtain rfl := leafs_nil h
 obtain ⟨m, rfl, hm⟩ := wf_u64 hc
 exact ⟨⟨a, b, s, t, m⟩, rfl, hm⟩
theorem dvs_in {W : World} {v : Value} (h : InRows W lsDv v) : ∃ (S : SV) (l : List Dv), v = S.v ∧ (∀ d ∈ l, d.keep < 2 ^ 64) ∧ ∀ g, slc tDv false S l W g := by
 obtain ⟨S, l, h1, _, _, h2, h3⟩ := h.slc tDv (ok := fun d => d.keep < 2 ^ 64) (fun r hr => by obtain ⟨d, h1, h2⟩ := dv_in hr; exact ⟨d, h1, h2⟩)
 exact ⟨S, l, h1, h2, h3⟩
theorem store_calls (W : World) (v0 v1 : Value) (h0 : ∃ n, v0 = .int .i64 n ∧ (Lit.int .i64 n).wf = true) (h : InRows W lsDv v1) : Calls Tryz.prog 4 #[v0, v1] W fun e w' => e = .returned (.bool true) ∧ Below W.heap.size W w' := by
 obtain ⟨z, rfl, _⟩ := h0
 obtain ⟨S, l, rfl, hk, h2⟩ := dvs_in h
 exact law_calls (store_ok W z S l hk) (fun v L h => h.1) (by simpa using h2)
end Go.Proofs
