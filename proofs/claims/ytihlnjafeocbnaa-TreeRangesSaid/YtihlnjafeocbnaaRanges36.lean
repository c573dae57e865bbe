/- The law TreeRanges: its walk. -/
import Derived.Test.YtihlnjafeocbnaaPlays36
set_option autoImplicit false
namespace Go.Proofs
open Go.SL
structure Ask36 where
  from' : Ky
  to' : Ky
  most : Int
abbrev akV (a : Ask36) : List Value := [str a.from', str a.to', .int .i64 a.most]
attribute [local irreducible] J JL QOp JOp seqQ blockQ loopQ retQ slc cel hex star pur stars Does RV Ent pAt scopeQ
attribute [local irreducible] nodeA nodeX treeA
theorem tranges_ok (E : World) (T : SV) (l : List Dd) (a : Ask36) : Does Try.prog E 4 [T.v, .agg (akV a).toArray] [slc tDd false T l] fun v L => v = .bool true ∧ L = [] := by
  obtain ⟨af, at', am⟩ := a
  refine Does.of Try.func4 rfl Try.ntmps4 rfl rfl fun F => ?_
  refine J.norm ?_
  refine J_seq ?_
  refine J_region ?_
  refine L_o rfl rfl rfl (O_box rfl fun b3 => ?_)
  refine L_q (Q_assign rfl) rfl rfl rfl ?_
  refine JL_nil ?_
  refine seqQ_normal ?_
  refine J_seq ?_
  refine J_seq ?_
  refine J.mid (fun ρ' L' => ∃ b : Bool, (b = false → fewK l = true) ∧ envSub [(0, T.v), (3, .pointer (some ⟨b3, 0, none⟩)), (24, .bool b)] ρ' ∧ Ent L' [cel b3 (akV ⟨af, at', am⟩) 39, slc tDd false T l, F]) ?_ ?_
  · have hfw := fewK_ok E T l
    cases hf : fewK l with
    | false =>
      rw [hf] at hfw
      refine J_region ?_
      refine L_q (Q_move rfl) rfl rfl rfl ?_
      refine L_o rfl rfl rfl (O_call [1] [0,2] hfw rfl rfl ?_)
      rintro _ _ ⟨rfl, rfl⟩
      refine JL.norm ?_
      refine L_q ((Q_not rfl).as (v' := .bool true) rfl) rfl rfl rfl ?_
      refine L_q (Q_move rfl) rfl rfl rfl ?_
      refine L_n rfl rfl rfl ?_
      refine L_n rfl rfl rfl ?_
      refine L_n rfl rfl rfl ?_
      refine L_n rfl rfl rfl ?_
      refine L_q (Q_pickT rfl rfl) rfl rfl rfl ?_
      refine L_q (Q_move rfl) rfl rfl rfl ?_
      refine L_n rfl rfl rfl ?_
      refine L_n rfl rfl rfl ?_
      refine L_n rfl rfl rfl ?_
      refine L_n rfl rfl rfl ?_
      refine L_q (Q_pickT rfl rfl) rfl rfl rfl ?_
      refine JL_nil ?_
      exact ⟨rfl, true, fun h => Bool.noConfusion h, ⟨rfl, rfl, rfl, trivial⟩, Ent.re [1, 0, 2] rfl⟩
    | true =>
      rw [hf] at hfw
      by_cases c1 : (af.length : Int) > 1000
      · skip
        refine J_region ?_
        refine L_q (Q_move rfl) rfl rfl rfl ?_
        refine L_o rfl rfl rfl (O_call [1] [0,2] hfw rfl rfl ?_)
        rintro _ _ ⟨rfl, rfl⟩
        refine JL.norm ?_
        refine L_q ((Q_not rfl).as (v' := .bool false) rfl) rfl rfl rfl ?_
        refine L_q (Q_move rfl) rfl rfl rfl ?_
        refine L_q (Q_fa0 rfl) rfl rfl rfl ?_
        refine L_q (Q_ld 1 rfl rfl rfl rfl) rfl rfl rfl ?_
        refine L_q (Q_slen rfl) rfl rfl rfl ?_
        refine L_q ((Q_gtr rfl rfl).as (v' := .bool true) (congrArg Value.bool (decide_eq_true c1))) rfl rfl rfl ?_
        refine L_q (Q_pickF rfl rfl) rfl rfl rfl ?_
        refine L_q (Q_move rfl) rfl rfl rfl ?_
        refine L_n rfl rfl rfl ?_
        refine L_n rfl rfl rfl ?_
        refine L_n rfl rfl rfl ?_
        refine L_n rfl rfl rfl ?_
        refine L_q (Q_pickT rfl rfl) rfl rfl rfl ?_
        refine JL_nil ?_
        exact ⟨rfl, true, fun h => Bool.noConfusion h, ⟨rfl, rfl, rfl, trivial⟩, Ent.re [1, 0, 2] rfl⟩
      · by_cases c2 : (at'.length : Int) > 1000
        · skip
          refine J_region ?_
          refine L_q (Q_move rfl) rfl rfl rfl ?_
          refine L_o rfl rfl rfl (O_call [1] [0,2] hfw rfl rfl ?_)
          rintro _ _ ⟨rfl, rfl⟩
          refine JL.norm ?_
          refine L_q ((Q_not rfl).as (v' := .bool false) rfl) rfl rfl rfl ?_
          refine L_q (Q_move rfl) rfl rfl rfl ?_
          refine L_q (Q_fa0 rfl) rfl rfl rfl ?_
          refine L_q (Q_ld 1 rfl rfl rfl rfl) rfl rfl rfl ?_
          refine L_q (Q_slen rfl) rfl rfl rfl ?_
          refine L_q ((Q_gtr rfl rfl).as (v' := .bool false) (congrArg Value.bool (decide_eq_false c1))) rfl rfl rfl ?_
          refine L_q (Q_pickF rfl rfl) rfl rfl rfl ?_
          refine L_q (Q_move rfl) rfl rfl rfl ?_
          refine L_q (Q_fa0 rfl) rfl rfl rfl ?_
          refine L_q (Q_ld 1 rfl rfl rfl rfl) rfl rfl rfl ?_
          refine L_q (Q_slen rfl) rfl rfl rfl ?_
          refine L_q ((Q_gtr rfl rfl).as (v' := .bool true) (congrArg Value.bool (decide_eq_true c2))) rfl rfl rfl ?_
          refine L_q (Q_pickF rfl rfl) rfl rfl rfl ?_
          refine JL_nil ?_
          exact ⟨rfl, true, fun h => Bool.noConfusion h, ⟨rfl, rfl, rfl, trivial⟩, Ent.re [1, 0, 2] rfl⟩
        · skip
          refine J_region ?_
          refine L_q (Q_move rfl) rfl rfl rfl ?_
          refine L_o rfl rfl rfl (O_call [1] [0,2] hfw rfl rfl ?_)
          rintro _ _ ⟨rfl, rfl⟩
          refine JL.norm ?_
          refine L_q ((Q_not rfl).as (v' := .bool false) rfl) rfl rfl rfl ?_
          refine L_q (Q_move rfl) rfl rfl rfl ?_
          refine L_q (Q_fa0 rfl) rfl rfl rfl ?_
          refine L_q (Q_ld 1 rfl rfl rfl rfl) rfl rfl rfl ?_
          refine L_q (Q_slen rfl) rfl rfl rfl ?_
          refine L_q ((Q_gtr rfl rfl).as (v' := .bool false) (congrArg Value.bool (decide_eq_false c1))) rfl rfl rfl ?_
          refine L_q (Q_pickF rfl rfl) rfl rfl rfl ?_
          refine L_q (Q_move rfl) rfl rfl rfl ?_
          refine L_q (Q_fa0 rfl) rfl rfl rfl ?_
          refine L_q (Q_ld 1 rfl rfl rfl rfl) rfl rfl rfl ?_
          refine L_q (Q_slen rfl) rfl rfl rfl ?_
          refine L_q ((Q_gtr rfl rfl).as (v' := .bool false) (congrArg Value.bool (decide_eq_false c2))) rfl rfl rfl ?_
          refine L_q (Q_pickF rfl rfl) rfl rfl rfl ?_
          refine JL_nil ?_
          exact ⟨rfl, false, fun _ => rfl, ⟨rfl, rfl, rfl, trivial⟩, Ent.re [1, 0, 2] rfl⟩
  rintro ρ1 L1 ⟨b, hb, hsub, hent⟩
  refine J.sub hsub ?_
  refine J.ent hent ?_
  clear hsub hent
  cases b with
  | true =>
    refine J_condT rfl ?_
    refine J_seq ?_
    refine J_region ?_
    refine L_o rfl rfl rfl (O_call [] [0,1,2] (awake36_ok E) rfl rfl ?_)
    rintro _ _ ⟨rfl, rfl⟩
    refine JL.norm ?_
    refine L_q (Q_assign rfl) rfl rfl rfl ?_
    refine JL_nil ?_
    refine seqQ_normal ?_
    refine J_ret ?_
    refine seqQ_ret ?_
    exact retQ_ret _ [] (.cons (RV_tmp rfl) .nil) ⟨rfl, rfl⟩ (Ent.re [2] rfl)
  | false =>
    obtain ⟨h300, _⟩ := fewK_text (hb rfl)
    refine J_condF rfl ?_
    refine J_skip ?_
    refine seqQ_normal ?_
    refine J_seq ?_
    refine J_region ?_
    refine L_o rfl rfl rfl (O_call [] [0,1,2] (tnew_ok E) rfl rfl ?_)
    rintro _ _ ⟨p, rfl, rfl⟩
    refine JL.norm ?_
    refine L_q (Q_assign rfl) rfl rfl rfl ?_
    refine JL_nil ?_
    refine seqQ_normal ?_
    refine J_seq ?_
    refine J_region ?_
    refine L_q (Q_assign rfl) rfl rfl rfl ?_
    refine JL_nil ?_
    refine seqQ_normal ?_
    refine J_seq ?_
    refine J_seq ?_
    refine J_region ?_
    refine L_q (Q_assign rfl) rfl rfl rfl ?_
    refine JL_nil ?_
    refine seqQ_normal ?_
    refine J_block ?_
    refine J.ent Ent.stars_nil ?_
    refine J_loop (fun i : Nat × SV × HProp => i.1 ≤ l.length ∧ Rdy E i.2.2 i.2.1 (runL [] (l.take i.1))) (fun i => [(0, T.v), (3, .pointer (some ⟨b3, 0, none⟩)), (5, .pointer (some ⟨p, 0, none⟩)), (6, i.2.1.v), (7, .int .i64 (i.1 : Int))]) (fun i => [slc tDd false T l, treeA p (runL [] (l.take i.1)), i.2.2, cel b3 (akV ⟨af, at', am⟩) 39, F]) (fun i => l.length - i.1) (0, SV.nil, stars []) ⟨Nat.zero_le _, by rw [List.take_zero]; exact Rdy.nil⟩ ⟨rfl, rfl, rfl, rfl, rfl, trivial⟩ (Ent.re [3, 1, 0, 2, 4] rfl) ?_
    rintro ⟨k, S, C⟩ ⟨hk, hR⟩
    dsimp only at hk hR ⊢
    have hup := runL_upT l k
    have hlen := runL_300 (k := k) h300
    refine J_seq ?_
    refine J_seq ?_
    refine J_region ?_
    refine L_q (Q_move rfl) rfl rfl rfl ?_
    refine L_q (Q_move rfl) rfl rfl rfl ?_
    refine L_q (Q_lenAt 0 rfl rfl) rfl rfl rfl ?_
    refine L_q (Q_lss rfl rfl) rfl rfl rfl ?_
    refine JL_nil ?_
    refine seqQ_normal ?_
    refine J_condD rfl (fun h => ?_) (fun h => ?_)
    · have hlt : k < l.length := by omega
      have hst := take_runL hlt
      generalize runL [] (l.take k) = m at *
      refine J_skip ?_
      refine seqQ_normal ?_
      refine J_seq ?_
      refine J_block ?_
      refine J_seq ?_
      refine J_region ?_
      refine L_q (Q_move rfl) rfl rfl rfl ?_
      refine L_q (Q_move rfl) rfl rfl rfl ?_
      refine L_q (Q_move rfl) rfl rfl rfl ?_
      refine L_q (Q_move rfl) rfl rfl rfl ?_
      refine L_q (Q_ixAt 0 k rfl rfl rfl rfl hlt rfl) rfl rfl rfl ?_
      refine L_q (Q_ldEAAt 0 k 0 (vs := ddV l[k]) rfl rfl rfl rfl hlt (by decide) rfl) rfl rfl rfl ?_
      refine L_o rfl rfl rfl (O_call [1,2] [0,3,4] (do_ok E p m l[k] C S hR (by omega)) rfl rfl ?_)
      rintro _ _ ⟨S2, D, hR2, rfl, rfl⟩
      refine JL.norm ?_
      refine L_q (Q_move rfl) rfl rfl rfl ?_
      refine L_q (Q_extract (v := S2.v) rfl rfl) rfl rfl rfl ?_
      refine L_q (Q_extract (v := .bool true) rfl rfl) rfl rfl rfl ?_
      refine L_q (Q_assign rfl) rfl rfl rfl ?_
      refine L_q (Q_assign rfl) rfl rfl rfl ?_
      refine JL_nil ?_
      refine seqQ_normal ?_
      refine J_seq ?_
      refine J_region ?_
      refine L_q (Q_move rfl) rfl rfl rfl ?_
      refine L_q (Q_assign rfl) rfl rfl rfl ?_
      refine JL_nil ?_
      refine seqQ_normal ?_
      refine J_seq ?_
      refine J.ent ((Ent.re [1, 2, 0, 3, 4, 5] rfl).trans Ent.star_in) ?_
      refine J_region ?_
      refine L_q (Q_move rfl) rfl rfl rfl ?_
      refine L_q ((Q_not rfl).as (v' := .bool false) rfl) rfl rfl rfl ?_
      refine JL_nil ?_
      refine seqQ_normal ?_
      refine J_condF rfl ?_
      refine J_skip ?_
      refine blockQ_normal ?_
      refine seqQ_normal ?_
      refine J_region ?_
      refine L_q (Q_move rfl) rfl rfl rfl ?_
      refine L_q (Q_add rfl rfl (by first | exact IntWalk.i64_in _ (by omega) | exact IntWalk.u8_in _ (by omega) | exact IntWalk.u32_in _ (by omega) | exact IntWalk.u64_in _ (by omega) | rfl)) rfl rfl rfl ?_
      refine L_q (Q_assign rfl) rfl rfl rfl ?_
      refine JL_nil ?_
      refine loopQ_normal (k + 1, S2, star C D) ⟨hlt, by show Rdy E (star C D) S2 (runL [] (l.take (k + 1))); rw [hst]; exact hR2⟩ (by show l.length - (k + 1) < l.length - k; omega) ⟨rfl, rfl, rfl, rfl, rfl, trivial⟩ ?_
      show Ent _ [slc tDd false T l, treeA p (runL [] (l.take (k + 1))), star C D, cel b3 (akV ⟨af, at', am⟩) 39, F]
      rw [hst]
      exact Ent.re [2, 1, 0, 3, 4] rfl
    · have hrl : (refR af at' am [] (runL [] (l.take k))).length ≤ 100000 := by
        rw [refR_eq hup]
        unfold rngL
        split
        · simp
        · have h1 := runR_len at' am (flF af (runL [] (l.take k))) []
          have h2 : (flF af (runL [] (l.take k))).length ≤ (runL [] (l.take k)).length := List.length_filter_le _ _
          simp only [List.length_nil] at h1
          omega
      have rg := trange_ok E p (runL [] (l.take k)) af at' am (by omega)
      rw [← refR_eq hup] at rg
      have rr := rrange_ok E C S (runL [] (l.take k)) af at' am hR (by omega)
      generalize refR af at' am [] (runL [] (l.take k)) = z at *
      refine J_exit ?_
      refine seqQ_exit ?_
      refine loopQ_exit ?_
      refine blockQ_hit ?_
      refine seqQ_normal ?_
      refine J_seq ?_
      refine J_drawH [3] [0, 1, 2, 3, 4, 5, 6, 8, 9, 10, 11, 12, 13, 14, 17, 19, 20] (.quiet 0 (.quiet 1 (.quiet 2 (.quiet 3 (.quiet 4 (.quiet 5 (.quiet 6 (.quiet 8 (.quiet 9 (.quiet 10 (.quiet 11 (.quiet 12 (.quiet 13 (.quiet 14 (.loud 7 (.loud 15 (.loud 16 (.quiet 17 (.loud 18 (.quiet 19 (.quiet 20 .done))))))))))))))))))))) Try.mixed (by kernel_rfl) (by kernel_rfl) (by repeat (first | exact retQ_noP | refine seqQ_noP ?_ | refine blockQ_noP ?_ | refine loopQ_noP ?_ | refine scopeQ_noP ?_ | (intro _ _ _ h; cases h.1))) ?_
      refine S_q (Ent.re [3] rfl) rfl (Q_move rfl) rfl rfl rfl ?_
      refine S_q (Ent.re [3] rfl) rfl (Q_fa0 rfl) rfl rfl rfl ?_
      refine S_q (Ent.re [3] rfl) rfl (Q_ld 0 rfl rfl rfl rfl) rfl rfl rfl ?_
      refine S_q (Ent.re [3] rfl) rfl (Q_fa0 rfl) rfl rfl rfl ?_
      refine S_q (Ent.re [3] rfl) rfl (Q_ld 0 rfl rfl rfl rfl) rfl rfl rfl ?_
      refine S_q (Ent.re [3] rfl) rfl (Q_fa0 rfl) rfl rfl rfl ?_
      refine S_q (Ent.re [3] rfl) rfl (Q_ld 0 rfl rfl rfl rfl) rfl rfl rfl ?_
      refine S_q (Ent.re [3] rfl) rfl (Q_move rfl) rfl rfl rfl ?_
      refine S_q (Ent.re [3] rfl) rfl (Q_fa0 rfl) rfl rfl rfl ?_
      refine S_q (Ent.re [3] rfl) rfl (Q_ld 0 rfl rfl rfl rfl) rfl rfl rfl ?_
      refine S_q (Ent.re [3] rfl) rfl (Q_fa0 rfl) rfl rfl rfl ?_
      refine S_q (Ent.re [3] rfl) rfl (Q_ld 0 rfl rfl rfl rfl) rfl rfl rfl ?_
      refine S_q (Ent.re [3] rfl) rfl (Q_fa0 rfl) rfl rfl rfl ?_
      refine S_q (Ent.re [3] rfl) rfl (Q_ld 0 rfl rfl rfl rfl) rfl rfl rfl ?_
      refine S_o rfl rfl rfl rfl (O_call [1] [0,2,3,4] rg rfl rfl ?_)
      (rintro _ _ ⟨S2, rfl, rfl⟩; refine ⟨_, fun _ => ⟨Ent.reN [4] rfl, Ent.refl _⟩, ?_⟩)
      refine JS.norm ?_
      refine S_o rfl rfl rfl rfl (O_call [3] [0,1,2,4,5] rr rfl rfl ?_)
      (rintro _ _ ⟨S3, rfl, rfl⟩; refine ⟨_, fun _ => ⟨Ent.reN [5] rfl, Ent.refl _⟩, ?_⟩)
      refine JS.norm ?_
      refine S_o rfl rfl rfl rfl (O_call [3,1] [0,2,4,5,6] (rsame2_ok E (slc tKv true S3 z) S3 S2 z Rdy.slc hrl) rfl rfl ?_)
      (rintro _ _ ⟨rfl, rfl⟩; refine ⟨_, fun _ => ⟨Ent.reN [5] rfl, Ent.refl _⟩, ?_⟩)
      refine JS.norm ?_
      refine S_q (Ent.re [5] rfl) rfl (Q_move rfl) rfl rfl rfl ?_
      refine S_o rfl rfl rfl rfl (O_call [] [0,1,2,3,4,5,6] (awake36_ok E) rfl rfl ?_)
      (rintro _ _ ⟨rfl, rfl⟩; refine ⟨_, fun _ => ⟨Ent.reN [5] rfl, Ent.refl _⟩, ?_⟩)
      refine JS.norm ?_
      refine S_q (Ent.re [5] rfl) rfl (Q_pickT rfl rfl) rfl rfl rfl ?_
      refine S_q (Ent.re [5] rfl) rfl (Q_assign rfl) rfl rfl rfl ?_
      refine S_nil ?_
      refine seqQ_normal ?_
      refine J_ret ?_
      exact retQ_ret _ [] (.cons (RV_tmp rfl) .nil) ⟨rfl, rfl⟩ (Ent.re [6] rfl)
end Go.Proofs
