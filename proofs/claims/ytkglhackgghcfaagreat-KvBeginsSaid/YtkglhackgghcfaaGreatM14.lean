/- Part 14 of the texts below the row: Tree13, Tree14, Sl15, Ref36, Ref36b, TysD, Sl14, CrcP, SnapP, WireP. -/
import Derived.Test.YtkglhackgghcfaaGreatM13
/- The pairs gone over; a range. -/
set_option autoImplicit false
namespace Go.Proofs.Bt
open Go.SL
def rngL (l : List Kv) (f to : Ky) (many : Int) : List Kv := if many < 1 then [] else (runR to many [] (flF f l)).1
attribute [local irreducible] J JL QOp JOp seqQ blockQ loopQ retQ slc cel hex star pur stars Does RV Ent pAt scopeQ
attribute [local irreducible] nodeA nodeX treeA
theorem visit_ok (E : World) (f to : Ky) (many : Int) (bt bo bm : Nat) : ∀ (d p m : Nat) (t : T d) (acc : List Kv) (S : SV), wf m d t → Up (flat d t) → acc.length + (flat d t).length ≤ 2000000 →
    Does Tryz.prog E 52 [.pointer (some ⟨p, 0, none⟩), str f, eachV bt bo bm] [nodeA d p t, cel bt [str to] 9, cel bo [S.v] 36, cel bm [.int .i64 many] 3, slc tKv true S acc]
    fun v L => ∃ S' : SV, v = .bool (runR to many acc (flF f (flat d t))).2 ∧ L = [nodeA d p t, cel bt [str to] 9, cel bo [S'.v] 36, cel bm [.int .i64 many] 3, slc tKv true S' (runR to many acc (flF f (flat d t))).1] := by
  intro d
  induction d with
  | zero =>
    intro p m t acc0 S0 hw hu hle
    have h7 := (wf_ks hw).2
    have hku := ks_up hw hu
    have hpl := pos_le (tks 0 t) f
    refine Does.of Tryz.func52 rfl Tryz.ntmps52 rfl rfl fun F => ?_
    refine J.norm ?_
    refine J.leaf fun S R => ?_
    have hf := find_ok E p S R (tks 0 t) f (by omega) hku
    have efl : flF f (flat 0 t) = (tks 0 t).drop (posK (tks 0 t) f) := flF_drop hku
    have hle : acc0.length + (tks 0 t).length ≤ 2000000 := hle
    rw [efl]
    refine J_seq ?_
    refine J_region ?_
    refine L_q (Q_assign rfl) rfl rfl rfl ?_
    refine JL_nil ?_
    refine seqQ_normal ?_
    refine J_seq ?_
    refine J_region ?_
    refine L_q (Q_move rfl) rfl rfl rfl ?_
    refine L_q (Q_move rfl) rfl rfl rfl ?_
    refine L_o rfl rfl rfl (O_call [0,1] [2,3,4,5,6,7] hf rfl rfl ?_)
    rintro _ _ ⟨rfl, rfl⟩
    refine JL.norm ?_
    refine L_q (Q_move rfl) rfl rfl rfl ?_
    refine L_q (Q_extract (v := .int .i64 (posK (tks 0 t) f : Int)) rfl rfl) rfl rfl rfl ?_
    refine L_q (Q_extract (v := .bool (hasL (tks 0 t) f)) rfl rfl) rfl rfl rfl ?_
    refine L_q (Q_assign rfl) rfl rfl rfl ?_
    refine L_q (Q_assign rfl) rfl rfl rfl ?_
    refine JL_nil ?_
    refine seqQ_normal ?_
    refine J_seq ?_
    refine J_block ?_
    refine J_loop (fun i : Nat × List Kv × SV => i.1 ≤ (tks 0 t).length + 1 ∧ i.2.1.length + ((tks 0 t).drop i.1).length ≤ 2000000 ∧ runR to many acc0 ((tks 0 t).drop (posK (tks 0 t) f)) = runR to many i.2.1 ((tks 0 t).drop i.1)) (fun i => [(0, .pointer (some ⟨p, 0, none⟩)), (1, str f), (2, eachV bt bo bm), (7, .int .i64 (i.1 : Int))])
      (fun i => [ndC p S R, slc tKv true S (tks 0 t), slc tNd true R [], cel bt [str to] 9, cel bo [i.2.2.v] 36, cel bm [.int .i64 many] 3, slc tKv true i.2.2 i.2.1, F]) (fun i => (tks 0 t).length + 1 - i.1) (posK (tks 0 t) f, acc0, S0) ⟨by omega, by simp only [List.length_drop]; omega, rfl⟩ ⟨rfl, rfl, rfl, rfl, trivial⟩ (Ent.refl _) ?_
    rintro ⟨i, acc, S1⟩ ⟨hi, hal, hr⟩
    dsimp only at hi hal hr ⊢
    generalize posK (tks 0 t) f = p0 at *
    rw [hr]
    refine J_seq ?_
    refine J_seq ?_
    refine J_region ?_
    refine L_q (Q_move rfl) rfl rfl rfl ?_
    refine L_q (Q_move rfl) rfl rfl rfl ?_
    refine L_q (Q_nilCheck rfl) rfl rfl rfl ?_
    refine L_q (Q_fa0 rfl) rfl rfl rfl ?_
    refine L_q (Q_ld 0 rfl rfl rfl rfl) rfl rfl rfl ?_
    refine L_q (Q_lenAt 1 rfl rfl) rfl rfl rfl ?_
    refine L_q (Q_leq rfl rfl) rfl rfl rfl ?_
    refine JL_nil ?_
    refine seqQ_normal ?_
    refine J_condD rfl (fun h => ?_) (fun h => ?_)
    · have hil : i ≤ (tks 0 t).length := by omega
      refine J_skip ?_
      refine seqQ_normal ?_
      refine J_seq ?_
      refine J_block ?_
      refine J_seq ?_
      refine J_seq ?_
      refine J_region ?_
      refine L_q (Q_move rfl) rfl rfl rfl ?_
      refine L_o rfl rfl rfl (O_call [0,2] [1,3,4,5,6,7] (leaf_ok E p S R []) rfl rfl ?_)
      rintro _ _ ⟨rfl, rfl⟩
      refine JL.norm ?_
      refine L_q ((Q_not rfl).as (v' := .bool false) rfl) rfl rfl rfl ?_
      refine L_q (Q_move rfl) rfl rfl rfl ?_
      refine L_n rfl rfl rfl ?_
      refine L_n rfl rfl rfl ?_
      refine L_n rfl rfl rfl ?_
      refine L_n rfl rfl rfl ?_
      refine L_n rfl rfl rfl ?_
      refine L_n rfl rfl rfl ?_
      refine L_n rfl rfl rfl ?_
      refine L_n rfl rfl rfl ?_
      refine L_n rfl rfl rfl ?_
      refine L_n rfl rfl rfl ?_
      refine L_n rfl rfl rfl ?_
      refine L_q (Q_pickF rfl rfl) rfl rfl rfl ?_
      refine JL_nil ?_
      refine seqQ_normal ?_
      refine J_condF rfl ?_
      refine J_skip ?_
      refine seqQ_normal ?_
      refine J_seq ?_
      rcases Nat.lt_or_ge i (tks 0 t).length with hlt | hge
      · have hd := List.drop_eq_getElem_cons hlt
        have hsl := rngStep_len to many acc (tks 0 t)[i]
        simp only [List.length_drop] at hal
        have he := each_ok E (tks 0 t)[i] to many bt bo bm S1 acc (by omega)
        cases hb : (rngStep to many acc (tks 0 t)[i]).2 with
        | true =>
          rw [hb] at he
          refine J_region ?_
          refine L_q (Q_move rfl) rfl rfl rfl ?_
          refine L_q (Q_move rfl) rfl rfl rfl ?_
          refine L_q (Q_nilCheck rfl) rfl rfl rfl ?_
          refine L_q (Q_fa0 rfl) rfl rfl rfl ?_
          refine L_q (Q_ld 0 rfl rfl rfl rfl) rfl rfl rfl ?_
          refine L_q (Q_lenAt 2 rfl rfl) rfl rfl rfl ?_
          refine L_q ((Q_lss rfl rfl).as (v' := .bool true) (congrArg Value.bool (decide_eq_true (by omega)))) rfl rfl rfl ?_
          refine L_q (Q_move rfl) rfl rfl rfl ?_
          refine L_q (Q_move rfl) rfl rfl rfl ?_
          refine L_q (Q_move rfl) rfl rfl rfl ?_
          refine L_q (Q_nilCheck rfl) rfl rfl rfl ?_
          refine L_q (Q_fa0 rfl) rfl rfl rfl ?_
          refine L_q (Q_ld 0 rfl rfl rfl rfl) rfl rfl rfl ?_
          refine L_q (Q_move rfl) rfl rfl rfl ?_
          refine L_q (Q_ixAt 2 i rfl rfl rfl rfl hlt rfl) rfl rfl rfl ?_
          refine L_q (Q_ldEAAt 2 i 0 (vs := kvV (tks 0 t)[i]) rfl rfl rfl rfl hlt (by decide) rfl) rfl rfl rfl ?_
          refine L_o rfl rfl rfl (O_dyn [3,4,5,6] [0,1,2,7] rfl rfl rfl he rfl ?_)
          rintro _ _ ⟨S2, rfl, rfl⟩
          refine JL.norm ?_
          refine L_q ((Q_not rfl).as (v' := .bool false) rfl) rfl rfl rfl ?_
          refine L_q (Q_pickT rfl rfl) rfl rfl rfl ?_
          refine JL_nil ?_
          refine seqQ_normal ?_
          refine J_condF rfl ?_
          refine J_skip ?_
          refine blockQ_normal ?_
          refine seqQ_normal ?_
          refine J_region ?_
          refine L_q (Q_move rfl) rfl rfl rfl ?_
          refine L_q (Q_add rfl rfl (by first | exact IntWalk.i64_in _ (by omega) | exact IntWalk.u8_in _ (by omega) | exact IntWalk.u32_in _ (by omega) | exact IntWalk.u64_in _ (by omega) | rfl)) rfl rfl rfl ?_
          refine L_q (Q_assign rfl) rfl rfl rfl ?_
          refine JL_nil ?_
          refine loopQ_normal (i + 1, (rngStep to many acc (tks 0 t)[i]).1, S2) ⟨by omega, by simp only [List.length_drop]; omega, by rw [hd]; exact runR_ct hb⟩ (by show _ - (i + 1) < _ - i; omega) ⟨rfl, rfl, rfl, rfl, trivial⟩ (Ent.re [4, 6, 5, 0, 1, 2, 3, 7] rfl)
        | false =>
          rw [hb] at he
          rw [hd, runR_cf hb]
          refine J_region ?_
          refine L_q (Q_move rfl) rfl rfl rfl ?_
          refine L_q (Q_move rfl) rfl rfl rfl ?_
          refine L_q (Q_nilCheck rfl) rfl rfl rfl ?_
          refine L_q (Q_fa0 rfl) rfl rfl rfl ?_
          refine L_q (Q_ld 0 rfl rfl rfl rfl) rfl rfl rfl ?_
          refine L_q (Q_lenAt 2 rfl rfl) rfl rfl rfl ?_
          refine L_q ((Q_lss rfl rfl).as (v' := .bool true) (congrArg Value.bool (decide_eq_true (by omega)))) rfl rfl rfl ?_
          refine L_q (Q_move rfl) rfl rfl rfl ?_
          refine L_q (Q_move rfl) rfl rfl rfl ?_
          refine L_q (Q_move rfl) rfl rfl rfl ?_
          refine L_q (Q_nilCheck rfl) rfl rfl rfl ?_
          refine L_q (Q_fa0 rfl) rfl rfl rfl ?_
          refine L_q (Q_ld 0 rfl rfl rfl rfl) rfl rfl rfl ?_
          refine L_q (Q_move rfl) rfl rfl rfl ?_
          refine L_q (Q_ixAt 2 i rfl rfl rfl rfl hlt rfl) rfl rfl rfl ?_
          refine L_q (Q_ldEAAt 2 i 0 (vs := kvV (tks 0 t)[i]) rfl rfl rfl rfl hlt (by decide) rfl) rfl rfl rfl ?_
          refine L_o rfl rfl rfl (O_dyn [3,4,5,6] [0,1,2,7] rfl rfl rfl he rfl ?_)
          rintro _ _ ⟨S2, rfl, rfl⟩
          refine JL.norm ?_
          refine L_q ((Q_not rfl).as (v' := .bool true) rfl) rfl rfl rfl ?_
          refine L_q (Q_pickT rfl rfl) rfl rfl rfl ?_
          refine JL_nil ?_
          refine seqQ_normal ?_
          refine J_condT rfl ?_
          refine J_seq ?_
          refine J_region ?_
          refine L_q (Q_assign rfl) rfl rfl rfl ?_
          refine JL_nil ?_
          refine seqQ_normal ?_
          refine J_ret ?_
          refine blockQ_ret ?_
          refine seqQ_ret ?_
          refine loopQ_ret ?_
          refine blockQ_ret ?_
          refine seqQ_ret ?_
          refine retQ_ret _ [nodeA 0 p t, cel bt [str to] 9, cel bo [S2.v] 36, cel bm [.int .i64 many] 3, slc tKv true S2 (rngStep to many acc (tks 0 t)[i]).1] (.cons (RV_tmp rfl) .nil) ⟨S2, rfl, rfl⟩ ?_
          exact (Ent.re [4, 6, 5, 0, 1, 2, 3, 7] rfl).trans Ent.leafA
      · have hd : (tks 0 t).drop i = [] := List.drop_eq_nil_of_le hge
        have hd2 : (tks 0 t).drop (i + 1) = [] := List.drop_eq_nil_of_le (by omega)
        simp only [List.length_drop] at hal
        refine J_region ?_
        refine L_q (Q_move rfl) rfl rfl rfl ?_
        refine L_q (Q_move rfl) rfl rfl rfl ?_
        refine L_q (Q_nilCheck rfl) rfl rfl rfl ?_
        refine L_q (Q_fa0 rfl) rfl rfl rfl ?_
        refine L_q (Q_ld 0 rfl rfl rfl rfl) rfl rfl rfl ?_
        refine L_q (Q_lenAt 2 rfl rfl) rfl rfl rfl ?_
        refine L_q ((Q_lss rfl rfl).as (v' := .bool false) (congrArg Value.bool (decide_eq_false (by omega)))) rfl rfl rfl ?_
        refine L_q (Q_move rfl) rfl rfl rfl ?_
        refine L_n rfl rfl rfl ?_
        refine L_n rfl rfl rfl ?_
        refine L_n rfl rfl rfl ?_
        refine L_n rfl rfl rfl ?_
        refine L_n rfl rfl rfl ?_
        refine L_n rfl rfl rfl ?_
        refine L_n rfl rfl rfl ?_
        refine L_n rfl rfl rfl ?_
        refine L_n rfl rfl rfl ?_
        refine L_n rfl rfl rfl ?_
        refine L_q (Q_pickF rfl rfl) rfl rfl rfl ?_
        refine JL_nil ?_
        refine seqQ_normal ?_
        refine J_condF rfl ?_
        refine J_skip ?_
        refine blockQ_normal ?_
        refine seqQ_normal ?_
        refine J_region ?_
        refine L_q (Q_move rfl) rfl rfl rfl ?_
        refine L_q (Q_add rfl rfl (by first | exact IntWalk.i64_in _ (by omega) | exact IntWalk.u8_in _ (by omega) | exact IntWalk.u32_in _ (by omega) | exact IntWalk.u64_in _ (by omega) | rfl)) rfl rfl rfl ?_
        refine L_q (Q_assign rfl) rfl rfl rfl ?_
        refine JL_nil ?_
        exact loopQ_normal (i + 1, acc, S1) ⟨by omega, by simp only [List.length_drop]; omega, by rw [hd]; show _ = runR to many acc ((tks 0 t).drop (i + 1)); rw [hd2]⟩ (by show _ - (i + 1) < _ - i; omega) ⟨rfl, rfl, rfl, rfl, trivial⟩ (Ent.re [0, 2, 1, 3, 4, 5, 6, 7] rfl)
    · have hd : (tks 0 t).drop i = [] := List.drop_eq_nil_of_le (by omega)
      rw [hd]
      refine J_exit ?_
      refine seqQ_exit ?_
      refine loopQ_exit ?_
      refine blockQ_hit ?_
      refine seqQ_normal ?_
      refine J_seq ?_
      refine J_region ?_
      refine L_q (Q_assign rfl) rfl rfl rfl ?_
      refine JL_nil ?_
      refine seqQ_normal ?_
      refine J_ret ?_
      exact retQ_ret _ [nodeA 0 p t, cel bt [str to] 9, cel bo [S1.v] 36, cel bm [.int .i64 many] 3, slc tKv true S1 acc] (.cons (RV_tmp rfl) .nil) ⟨S1, rfl, rfl⟩ Ent.leafA
  | succ d ih =>
    intro p m t acc0 S0 hw hu hle
    obtain ⟨K, C⟩ := t
    have hku : Up K := ks_up hw hu
    obtain ⟨_, h7, hC, hwc⟩ := hw
    dsimp only at h7 hC hwc
    have hpl := pos_le K f
    obtain ⟨q1, q2, q3⟩ := rest_pos (f := f) hC hu hku
    refine Does.of Tryz.func52 rfl Tryz.ntmps52 rfl rfl fun F => ?_
    refine J.norm ?_
    refine J.inner fun S R es hes => ?_
    dsimp only at hes ⊢
    subst hes
    rw [List.length_map] at hC
    have hf := find_ok E p S R K f (by omega) hku
    have hlf := leaf_ok E p S R (pL es)
    rw [show decide (((pL es).length : Int) = 0) = false from decide_eq_false (by rw [pL_len]; omega)] at hlf
    rw [q1]
    refine J_seq ?_
    refine J_region ?_
    refine L_q (Q_assign rfl) rfl rfl rfl ?_
    refine JL_nil ?_
    refine seqQ_normal ?_
    refine J_seq ?_
    refine J_region ?_
    refine L_q (Q_move rfl) rfl rfl rfl ?_
    refine L_q (Q_move rfl) rfl rfl rfl ?_
    refine L_o rfl rfl rfl (O_call [0,1] [2,3,4,5,6,7,8] hf rfl rfl ?_)
    rintro _ _ ⟨rfl, rfl⟩
    refine JL.norm ?_
    refine L_q (Q_move rfl) rfl rfl rfl ?_
    refine L_q (Q_extract (v := .int .i64 (posK K f : Int)) rfl rfl) rfl rfl rfl ?_
    refine L_q (Q_extract (v := .bool (hasL K f)) rfl rfl) rfl rfl rfl ?_
    refine L_q (Q_assign rfl) rfl rfl rfl ?_
    refine L_q (Q_assign rfl) rfl rfl rfl ?_
    refine JL_nil ?_
    refine seqQ_normal ?_
    refine J_seq ?_
    refine J_block ?_
    refine J_loop (fun i : Nat × List Kv × SV => posK K f ≤ i.1 ∧ i.1 ≤ K.length + 1 ∧ i.2.1.length + (restF d K (es.map (·.2)) i.1).length ≤ 2000000 ∧ Up (restF d K (es.map (·.2)) i.1) ∧ runR to many acc0 (flF f (restF d K (es.map (·.2)) (posK K f))) = runR to many i.2.1 (flF f (restF d K (es.map (·.2)) i.1))) (fun i => [(0, .pointer (some ⟨p, 0, none⟩)), (1, str f), (2, eachV bt bo bm), (7, .int .i64 (i.1 : Int))])
      (fun i => [ndC p S R, slc tKv true S K, slc tNd true R (pL es), stars (es.map (ndE d)), cel bt [str to] 9, cel bo [i.2.2.v] 36, cel bm [.int .i64 many] 3, slc tKv true i.2.2 i.2.1, F]) (fun i => K.length + 1 - i.1) (posK K f, acc0, S0) ⟨Nat.le_refl _, by show posK K f ≤ _; omega, by show acc0.length + (restF d K (es.map (·.2)) (posK K f)).length ≤ _; omega, q2, rfl⟩ ⟨rfl, rfl, rfl, rfl, trivial⟩ (Ent.refl _) ?_
    rintro ⟨i, acc, S1⟩ ⟨hi0, hi, hal, hup, hr⟩
    dsimp only at hi0 hi hal hup hr ⊢
    rw [hr]
    refine J_seq ?_
    refine J_seq ?_
    refine J_region ?_
    refine L_q (Q_move rfl) rfl rfl rfl ?_
    refine L_q (Q_move rfl) rfl rfl rfl ?_
    refine L_q (Q_nilCheck rfl) rfl rfl rfl ?_
    refine L_q (Q_fa0 rfl) rfl rfl rfl ?_
    refine L_q (Q_ld 0 rfl rfl rfl rfl) rfl rfl rfl ?_
    refine L_q (Q_lenAt 1 rfl rfl) rfl rfl rfl ?_
    refine L_q (Q_leq rfl rfl) rfl rfl rfl ?_
    refine JL_nil ?_
    refine seqQ_normal ?_
    refine J_condD rfl (fun h => ?_) (fun h => ?_)
    · have hil : i ≤ K.length := by omega
      obtain ⟨A, e, B, rfl, hA⟩ := split_at (l := es) (i := i) (by omega)
      subst hA
      have hPl : A.length < (pL (A ++ e :: B)).length := by rw [pL_len]; simp
      have hPg := pL_get1' A B e hPl
      have hwe : wf 3 d e.2 := hwc e.2 (by simp)
      have hAm : (A.map (·.2)).length = A.length := List.length_map ..
      have hCm : (A.map (·.2) ++ e.2 :: B.map (·.2)).length = K.length + 1 := by simpa using hC
      have hem : (A ++ e :: B).map (·.2) = A.map (·.2) ++ e.2 :: B.map (·.2) := by simp
      rw [hem] at hal hup hr
      rw [hem]
      generalize hfc : A.map (·.2) = CA at *
      rcases Nat.lt_or_ge A.length K.length with hlt | hge
      · have hrm := rest_mid (K := K) (A := CA) (B := B.map (·.2)) (c := e.2) (by omega) hCm
        simp only [hAm] at hrm
        rw [hrm] at hal hup
        simp only [List.length_append, List.length_cons] at hal
        obtain ⟨u1, u2⟩ := up_app hup
        obtain ⟨_, _, _, u3⟩ := up_mid (X := []) u2
        have hkf : kl K[A.length].key f = false := pos_ge hku hlt hi0
        have hsp : flF f (restF d K (CA ++ e.2 :: B.map (·.2)) A.length) = flF f (flat d e.2) ++ K[A.length] :: flF f (restF d K (CA ++ e.2 :: B.map (·.2)) (A.length + 1)) := by
          rw [hrm, flF_app, flF_cons hkf]
        have hv := ih e.1 3 e.2 acc S1 hwe u1 (by omega)
        have hrl := runR_len to many (flF f (flat d e.2)) acc
        have hfl : (flF f (flat d e.2)).length ≤ (flat d e.2).length := List.length_filter_le _ _
        cases hb : (runR to many acc (flF f (flat d e.2))).2 with
        | false =>
          rw [hb] at hv
          rw [hsp, runR_f hb]
          refine J.ent ((Ent.re [3, 0, 2, 1, 4, 5, 6, 7, 8] rfl).trans ((Ent.mid_out (ndE d) A e B).trans (Ent.re [2, 3, 0, 1, 4, 5, 6, 7, 8, 9] rfl))) ?_
          refine J_skip ?_
          refine seqQ_normal ?_
          refine J_seq ?_
          refine J_block ?_
          refine J_seq ?_
          refine J_seq ?_
          refine J_region ?_
          refine L_q (Q_move rfl) rfl rfl rfl ?_
          refine L_o rfl rfl rfl (O_call [0,1] [2,3,4,5,6,7,8,9] hlf rfl rfl ?_)
          rintro _ _ ⟨rfl, rfl⟩
          refine JL.norm ?_
          refine L_q ((Q_not rfl).as (v' := .bool true) rfl) rfl rfl rfl ?_
          refine L_q (Q_move rfl) rfl rfl rfl ?_
          refine L_q (Q_move rfl) rfl rfl rfl ?_
          refine L_q (Q_nilCheck rfl) rfl rfl rfl ?_
          refine L_q (Q_fa0 rfl) rfl rfl rfl ?_
          refine L_q (Q_ld 0 rfl rfl rfl rfl) rfl rfl rfl ?_
          refine L_q (Q_move rfl) rfl rfl rfl ?_
          refine L_q (Q_ixAt 1 A.length rfl rfl rfl rfl hPl rfl) rfl rfl rfl ?_
          refine L_q (Q_ldEAt 1 A.length 0 (v := .pointer (some ⟨e.1, 0, none⟩)) rfl rfl rfl rfl hPl (by decide) (by rw [hPg]; rfl)) rfl rfl rfl ?_
          refine L_q (Q_move rfl) rfl rfl rfl ?_
          refine L_q (Q_move rfl) rfl rfl rfl ?_
          refine L_o rfl rfl rfl (O_call [2,5,6,7,8] [0,1,3,4,9] hv rfl rfl ?_)
          rintro _ _ ⟨S2, rfl, rfl⟩
          refine JL.norm ?_
          refine L_q ((Q_not rfl).as (v' := .bool true) rfl) rfl rfl rfl ?_
          refine L_q (Q_pickT rfl rfl) rfl rfl rfl ?_
          refine JL_nil ?_
          refine seqQ_normal ?_
          refine J_condT rfl ?_
          refine J_seq ?_
          refine J_region ?_
          refine L_q (Q_assign rfl) rfl rfl rfl ?_
          refine JL_nil ?_
          refine seqQ_normal ?_
          refine J_ret ?_
          refine seqQ_ret ?_
          refine blockQ_ret ?_
          refine seqQ_ret ?_
          refine loopQ_ret ?_
          refine blockQ_ret ?_
          refine seqQ_ret ?_
          refine retQ_ret _ [nodeA (d + 1) p (K, CA ++ e.2 :: B.map (·.2)), cel bt [str to] 9, cel bo [S2.v] 36, cel bm [.int .i64 many] 3, slc tKv true S2 (runR to many acc (flF f (flat d e.2))).1] (.cons (RV_tmp rfl) .nil) ⟨S2, rfl, rfl⟩ ?_
          exact (Ent.re [0, 7, 5, 6, 8, 1, 2, 3, 4, 9] rfl).trans ((Ent.mid_in (ndE d) A e B).trans ((Ent.re [1, 3, 2, 0, 4, 5, 6, 7, 8] rfl).trans (Ent.innerA (es := A ++ e :: B) hem)))
        | true =>
          rw [hb] at hv
          generalize hg : (runR to many acc (flF f (flat d e.2))).1 = acc1 at *
          have hsl := rngStep_len to many acc1 K[A.length]
          have hrr : runR to many acc (flF f (restF d K (CA ++ e.2 :: B.map (·.2)) A.length)) = runR to many acc1 (K[A.length] :: flF f (restF d K (CA ++ e.2 :: B.map (·.2)) (A.length + 1))) := by
            rw [hsp, runR_t hb, hg]
          refine J.ent ((Ent.re [3, 0, 2, 1, 4, 5, 6, 7, 8] rfl).trans ((Ent.mid_out (ndE d) A e B).trans (Ent.re [2, 3, 0, 1, 4, 5, 6, 7, 8, 9] rfl))) ?_
          refine J_skip ?_
          refine seqQ_normal ?_
          refine J_seq ?_
          refine J_block ?_
          refine J_seq ?_
          refine J_seq ?_
          refine J_region ?_
          refine L_q (Q_move rfl) rfl rfl rfl ?_
          refine L_o rfl rfl rfl (O_call [0,1] [2,3,4,5,6,7,8,9] hlf rfl rfl ?_)
          rintro _ _ ⟨rfl, rfl⟩
          refine JL.norm ?_
          refine L_q ((Q_not rfl).as (v' := .bool true) rfl) rfl rfl rfl ?_
          refine L_q (Q_move rfl) rfl rfl rfl ?_
          refine L_q (Q_move rfl) rfl rfl rfl ?_
          refine L_q (Q_nilCheck rfl) rfl rfl rfl ?_
          refine L_q (Q_fa0 rfl) rfl rfl rfl ?_
          refine L_q (Q_ld 0 rfl rfl rfl rfl) rfl rfl rfl ?_
          refine L_q (Q_move rfl) rfl rfl rfl ?_
          refine L_q (Q_ixAt 1 A.length rfl rfl rfl rfl hPl rfl) rfl rfl rfl ?_
          refine L_q (Q_ldEAt 1 A.length 0 (v := .pointer (some ⟨e.1, 0, none⟩)) rfl rfl rfl rfl hPl (by decide) (by rw [hPg]; rfl)) rfl rfl rfl ?_
          refine L_q (Q_move rfl) rfl rfl rfl ?_
          refine L_q (Q_move rfl) rfl rfl rfl ?_
          refine L_o rfl rfl rfl (O_call [2,5,6,7,8] [0,1,3,4,9] hv rfl rfl ?_)
          rintro _ _ ⟨S2, rfl, rfl⟩
          refine JL.norm ?_
          refine L_q ((Q_not rfl).as (v' := .bool false) rfl) rfl rfl rfl ?_
          refine L_q (Q_pickT rfl rfl) rfl rfl rfl ?_
          refine JL_nil ?_
          refine seqQ_normal ?_
          refine J_condF rfl ?_
          refine J_skip ?_
          refine seqQ_normal ?_
          refine J_seq ?_
          have he := each_ok E K[A.length] to many bt bo bm S2 acc1 (by omega)
          cases hb2 : (rngStep to many acc1 K[A.length]).2 with
          | true =>
            rw [hb2] at he
            refine J_region ?_
            refine L_q (Q_move rfl) rfl rfl rfl ?_
            refine L_q (Q_move rfl) rfl rfl rfl ?_
            refine L_q (Q_nilCheck rfl) rfl rfl rfl ?_
            refine L_q (Q_fa0 rfl) rfl rfl rfl ?_
            refine L_q (Q_ld 5 rfl rfl rfl rfl) rfl rfl rfl ?_
            refine L_q (Q_lenAt 8 rfl rfl) rfl rfl rfl ?_
            refine L_q ((Q_lss rfl rfl).as (v' := .bool true) (congrArg Value.bool (decide_eq_true (by omega)))) rfl rfl rfl ?_
            refine L_q (Q_move rfl) rfl rfl rfl ?_
            refine L_q (Q_move rfl) rfl rfl rfl ?_
            refine L_q (Q_move rfl) rfl rfl rfl ?_
            refine L_q (Q_nilCheck rfl) rfl rfl rfl ?_
            refine L_q (Q_fa0 rfl) rfl rfl rfl ?_
            refine L_q (Q_ld 5 rfl rfl rfl rfl) rfl rfl rfl ?_
            refine L_q (Q_move rfl) rfl rfl rfl ?_
            refine L_q (Q_ixAt 8 A.length rfl rfl rfl rfl hlt rfl) rfl rfl rfl ?_
            refine L_q (Q_ldEAAt 8 A.length 0 (vs := kvV K[A.length]) rfl rfl rfl rfl hlt (by decide) rfl) rfl rfl rfl ?_
            refine L_o rfl rfl rfl (O_dyn [1,2,3,4] [0,5,6,7,8,9] rfl rfl rfl he rfl ?_)
            rintro _ _ ⟨S3, rfl, rfl⟩
            refine JL.norm ?_
            refine L_q ((Q_not rfl).as (v' := .bool false) rfl) rfl rfl rfl ?_
            refine L_q (Q_pickT rfl rfl) rfl rfl rfl ?_
            refine JL_nil ?_
            refine seqQ_normal ?_
            refine J_condF rfl ?_
            refine J_skip ?_
            refine blockQ_normal ?_
            refine seqQ_normal ?_
            refine J_region ?_
            refine L_q (Q_move rfl) rfl rfl rfl ?_
            refine L_q (Q_add rfl rfl (by first | exact IntWalk.i64_in _ (by omega) | exact IntWalk.u8_in _ (by omega) | exact IntWalk.u32_in _ (by omega) | exact IntWalk.u64_in _ (by omega) | rfl)) rfl rfl rfl ?_
            refine L_q (Q_assign rfl) rfl rfl rfl ?_
            refine JL_nil ?_
            refine loopQ_normal (A.length + 1, (rngStep to many acc1 K[A.length]).1, S3) ⟨by show posK K f ≤ A.length + 1; omega, by show A.length + 1 ≤ _; omega, ?_, ?_, ?_⟩ (by show _ - (A.length + 1) < _ - A.length; omega) ⟨rfl, rfl, rfl, rfl, trivial⟩ ?_
            · show (rngStep to many acc1 K[A.length]).1.length + (restF d K (CA ++ e.2 :: B.map (·.2)) (A.length + 1)).length ≤ _
              omega
            · exact u3
            · show runR to many acc (flF f (restF d K (CA ++ e.2 :: B.map (·.2)) A.length)) = _
              rw [hrr]; exact runR_ct hb2
            · exact (Ent.re [4, 7, 5, 6, 8, 0, 1, 2, 3, 9] rfl).trans ((Ent.mid_in (ndE d) A e B).trans (Ent.re [1, 3, 2, 0, 4, 5, 6, 7, 8] rfl))
          | false =>
            rw [hb2] at he
            rw [hrr, runR_cf hb2]
            refine J_region ?_
            refine L_q (Q_move rfl) rfl rfl rfl ?_
            refine L_q (Q_move rfl) rfl rfl rfl ?_
            refine L_q (Q_nilCheck rfl) rfl rfl rfl ?_
            refine L_q (Q_fa0 rfl) rfl rfl rfl ?_
            refine L_q (Q_ld 5 rfl rfl rfl rfl) rfl rfl rfl ?_
            refine L_q (Q_lenAt 8 rfl rfl) rfl rfl rfl ?_
            refine L_q ((Q_lss rfl rfl).as (v' := .bool true) (congrArg Value.bool (decide_eq_true (by omega)))) rfl rfl rfl ?_
            refine L_q (Q_move rfl) rfl rfl rfl ?_
            refine L_q (Q_move rfl) rfl rfl rfl ?_
            refine L_q (Q_move rfl) rfl rfl rfl ?_
            refine L_q (Q_nilCheck rfl) rfl rfl rfl ?_
            refine L_q (Q_fa0 rfl) rfl rfl rfl ?_
            refine L_q (Q_ld 5 rfl rfl rfl rfl) rfl rfl rfl ?_
            refine L_q (Q_move rfl) rfl rfl rfl ?_
            refine L_q (Q_ixAt 8 A.length rfl rfl rfl rfl hlt rfl) rfl rfl rfl ?_
            refine L_q (Q_ldEAAt 8 A.length 0 (vs := kvV K[A.length]) rfl rfl rfl rfl hlt (by decide) rfl) rfl rfl rfl ?_
            refine L_o rfl rfl rfl (O_dyn [1,2,3,4] [0,5,6,7,8,9] rfl rfl rfl he rfl ?_)
            rintro _ _ ⟨S3, rfl, rfl⟩
            refine JL.norm ?_
            refine L_q ((Q_not rfl).as (v' := .bool true) rfl) rfl rfl rfl ?_
            refine L_q (Q_pickT rfl rfl) rfl rfl rfl ?_
            refine JL_nil ?_
            refine seqQ_normal ?_
            refine J_condT rfl ?_
            refine J_seq ?_
            refine J_region ?_
            refine L_q (Q_assign rfl) rfl rfl rfl ?_
            refine JL_nil ?_
            refine seqQ_normal ?_
            refine J_ret ?_
            refine blockQ_ret ?_
            refine seqQ_ret ?_
            refine loopQ_ret ?_
            refine blockQ_ret ?_
            refine seqQ_ret ?_
            refine retQ_ret _ [nodeA (d + 1) p (K, CA ++ e.2 :: B.map (·.2)), cel bt [str to] 9, cel bo [S3.v] 36, cel bm [.int .i64 many] 3, slc tKv true S3 (rngStep to many acc1 K[A.length]).1] (.cons (RV_tmp rfl) .nil) ⟨S3, rfl, rfl⟩ ?_
            exact (Ent.re [4, 7, 5, 6, 8, 0, 1, 2, 3, 9] rfl).trans ((Ent.mid_in (ndE d) A e B).trans ((Ent.re [1, 3, 2, 0, 4, 5, 6, 7, 8] rfl).trans (Ent.innerA (es := A ++ e :: B) hem)))
      · have hB : B = [] := List.eq_nil_of_length_eq_zero (by simp at hCm; omega)
        subst hB
        obtain ⟨l1, l2⟩ := rest_last (d := d) (K := K) (A := CA) (c := e.2) (by omega)
        rw [hAm] at l1 l2
        simp only [List.map_nil] at hal hup hr hem ⊢
        rw [l1] at hal hup
        have hv := ih e.1 3 e.2 acc S1 hwe hup hal
        have hrl := runR_len to many (flF f (flat d e.2)) acc
        have hfl : (flF f (flat d e.2)).length ≤ (flat d e.2).length := List.length_filter_le _ _
        rw [l1]
        cases hb : (runR to many acc (flF f (flat d e.2))).2 with
        | false =>
          rw [hb] at hv
          refine J.ent ((Ent.re [3, 0, 2, 1, 4, 5, 6, 7, 8] rfl).trans ((Ent.mid_out (ndE d) A e []).trans (Ent.re [2, 3, 0, 1, 4, 5, 6, 7, 8, 9] rfl))) ?_
          refine J_skip ?_
          refine seqQ_normal ?_
          refine J_seq ?_
          refine J_block ?_
          refine J_seq ?_
          refine J_seq ?_
          refine J_region ?_
          refine L_q (Q_move rfl) rfl rfl rfl ?_
          refine L_o rfl rfl rfl (O_call [0,1] [2,3,4,5,6,7,8,9] hlf rfl rfl ?_)
          rintro _ _ ⟨rfl, rfl⟩
          refine JL.norm ?_
          refine L_q ((Q_not rfl).as (v' := .bool true) rfl) rfl rfl rfl ?_
          refine L_q (Q_move rfl) rfl rfl rfl ?_
          refine L_q (Q_move rfl) rfl rfl rfl ?_
          refine L_q (Q_nilCheck rfl) rfl rfl rfl ?_
          refine L_q (Q_fa0 rfl) rfl rfl rfl ?_
          refine L_q (Q_ld 0 rfl rfl rfl rfl) rfl rfl rfl ?_
          refine L_q (Q_move rfl) rfl rfl rfl ?_
          refine L_q (Q_ixAt 1 A.length rfl rfl rfl rfl hPl rfl) rfl rfl rfl ?_
          refine L_q (Q_ldEAt 1 A.length 0 (v := .pointer (some ⟨e.1, 0, none⟩)) rfl rfl rfl rfl hPl (by decide) (by rw [hPg]; rfl)) rfl rfl rfl ?_
          refine L_q (Q_move rfl) rfl rfl rfl ?_
          refine L_q (Q_move rfl) rfl rfl rfl ?_
          refine L_o rfl rfl rfl (O_call [2,5,6,7,8] [0,1,3,4,9] hv rfl rfl ?_)
          rintro _ _ ⟨S2, rfl, rfl⟩
          refine JL.norm ?_
          refine L_q ((Q_not rfl).as (v' := .bool true) rfl) rfl rfl rfl ?_
          refine L_q (Q_pickT rfl rfl) rfl rfl rfl ?_
          refine JL_nil ?_
          refine seqQ_normal ?_
          refine J_condT rfl ?_
          refine J_seq ?_
          refine J_region ?_
          refine L_q (Q_assign rfl) rfl rfl rfl ?_
          refine JL_nil ?_
          refine seqQ_normal ?_
          refine J_ret ?_
          refine seqQ_ret ?_
          refine blockQ_ret ?_
          refine seqQ_ret ?_
          refine loopQ_ret ?_
          refine blockQ_ret ?_
          refine seqQ_ret ?_
          refine retQ_ret _ [nodeA (d + 1) p (K, CA ++ e.2 :: []), cel bt [str to] 9, cel bo [S2.v] 36, cel bm [.int .i64 many] 3, slc tKv true S2 (runR to many acc (flF f (flat d e.2))).1] (.cons (RV_tmp rfl) .nil) ⟨S2, rfl, rfl⟩ ?_
          exact (Ent.re [0, 7, 5, 6, 8, 1, 2, 3, 4, 9] rfl).trans ((Ent.mid_in (ndE d) A e []).trans ((Ent.re [1, 3, 2, 0, 4, 5, 6, 7, 8] rfl).trans (Ent.innerA (es := A ++ e :: []) hem)))
        | true =>
          rw [hb] at hv
          refine J.ent ((Ent.re [3, 0, 2, 1, 4, 5, 6, 7, 8] rfl).trans ((Ent.mid_out (ndE d) A e []).trans (Ent.re [2, 3, 0, 1, 4, 5, 6, 7, 8, 9] rfl))) ?_
          refine J_skip ?_
          refine seqQ_normal ?_
          refine J_seq ?_
          refine J_block ?_
          refine J_seq ?_
          refine J_seq ?_
          refine J_region ?_
          refine L_q (Q_move rfl) rfl rfl rfl ?_
          refine L_o rfl rfl rfl (O_call [0,1] [2,3,4,5,6,7,8,9] hlf rfl rfl ?_)
          rintro _ _ ⟨rfl, rfl⟩
          refine JL.norm ?_
          refine L_q ((Q_not rfl).as (v' := .bool true) rfl) rfl rfl rfl ?_
          refine L_q (Q_move rfl) rfl rfl rfl ?_
          refine L_q (Q_move rfl) rfl rfl rfl ?_
          refine L_q (Q_nilCheck rfl) rfl rfl rfl ?_
          refine L_q (Q_fa0 rfl) rfl rfl rfl ?_
          refine L_q (Q_ld 0 rfl rfl rfl rfl) rfl rfl rfl ?_
          refine L_q (Q_move rfl) rfl rfl rfl ?_
          refine L_q (Q_ixAt 1 A.length rfl rfl rfl rfl hPl rfl) rfl rfl rfl ?_
          refine L_q (Q_ldEAt 1 A.length 0 (v := .pointer (some ⟨e.1, 0, none⟩)) rfl rfl rfl rfl hPl (by decide) (by rw [hPg]; rfl)) rfl rfl rfl ?_
          refine L_q (Q_move rfl) rfl rfl rfl ?_
          refine L_q (Q_move rfl) rfl rfl rfl ?_
          refine L_o rfl rfl rfl (O_call [2,5,6,7,8] [0,1,3,4,9] hv rfl rfl ?_)
          rintro _ _ ⟨S2, rfl, rfl⟩
          refine JL.norm ?_
          refine L_q ((Q_not rfl).as (v' := .bool false) rfl) rfl rfl rfl ?_
          refine L_q (Q_pickT rfl rfl) rfl rfl rfl ?_
          refine JL_nil ?_
          refine seqQ_normal ?_
          refine J_condF rfl ?_
          refine J_skip ?_
          refine seqQ_normal ?_
          refine J_seq ?_
          refine J_region ?_
          refine L_q (Q_move rfl) rfl rfl rfl ?_
          refine L_q (Q_move rfl) rfl rfl rfl ?_
          refine L_q (Q_nilCheck rfl) rfl rfl rfl ?_
          refine L_q (Q_fa0 rfl) rfl rfl rfl ?_
          refine L_q (Q_ld 5 rfl rfl rfl rfl) rfl rfl rfl ?_
          refine L_q (Q_lenAt 8 rfl rfl) rfl rfl rfl ?_
          refine L_q ((Q_lss rfl rfl).as (v' := .bool false) (congrArg Value.bool (decide_eq_false (by omega)))) rfl rfl rfl ?_
          refine L_q (Q_move rfl) rfl rfl rfl ?_
          refine L_n rfl rfl rfl ?_
          refine L_n rfl rfl rfl ?_
          refine L_n rfl rfl rfl ?_
          refine L_n rfl rfl rfl ?_
          refine L_n rfl rfl rfl ?_
          refine L_n rfl rfl rfl ?_
          refine L_n rfl rfl rfl ?_
          refine L_n rfl rfl rfl ?_
          refine L_n rfl rfl rfl ?_
          refine L_n rfl rfl rfl ?_
          refine L_q (Q_pickF rfl rfl) rfl rfl rfl ?_
          refine JL_nil ?_
          refine seqQ_normal ?_
          refine J_condF rfl ?_
          refine J_skip ?_
          refine blockQ_normal ?_
          refine seqQ_normal ?_
          refine J_region ?_
          refine L_q (Q_move rfl) rfl rfl rfl ?_
          refine L_q (Q_add rfl rfl (by first | exact IntWalk.i64_in _ (by omega) | exact IntWalk.u8_in _ (by omega) | exact IntWalk.u32_in _ (by omega) | exact IntWalk.u64_in _ (by omega) | rfl)) rfl rfl rfl ?_
          refine L_q (Q_assign rfl) rfl rfl rfl ?_
          refine JL_nil ?_
          refine loopQ_normal (A.length + 1, (runR to many acc (flF f (flat d e.2))).1, S2) ⟨by show posK K f ≤ A.length + 1; omega, by show A.length + 1 ≤ _; omega, ?_, ?_, ?_⟩ (by show _ - (A.length + 1) < _ - A.length; omega) ⟨rfl, rfl, rfl, rfl, trivial⟩ ?_
          · show (runR to many acc (flF f (flat d e.2))).1.length + (restF d K (CA ++ [e.2]) (A.length + 1)).length ≤ _
            rw [l2]; simp only [List.length_nil]; omega
          · show Up (restF d K (CA ++ [e.2]) (A.length + 1))
            rw [l2]; exact List.Pairwise.nil
          · show runR to many acc (flF f (flat d e.2)) = runR to many (runR to many acc (flF f (flat d e.2))).1 (flF f (restF d K (CA ++ [e.2]) (A.length + 1)))
            rw [l2]
            exact Prod.ext rfl hb
          · exact (Ent.re [0, 7, 5, 6, 8, 1, 2, 3, 4, 9] rfl).trans ((Ent.mid_in (ndE d) A e []).trans (Ent.re [1, 3, 2, 0, 4, 5, 6, 7, 8] rfl))
    · have hie : i = K.length + 1 := by omega
      have hrn : restF d K (es.map (·.2)) i = [] := by
        unfold restF
        have x1 : K.drop i = [] := List.drop_eq_nil_of_le (by omega)
        have x2 : (es.map (·.2)).drop i = [] := List.drop_eq_nil_of_le (by simp; omega)
        rw [x1, x2]
        rfl
      rw [hrn]
      refine J_exit ?_
      refine seqQ_exit ?_
      refine loopQ_exit ?_
      refine blockQ_hit ?_
      refine seqQ_normal ?_
      refine J_seq ?_
      refine J_region ?_
      refine L_q (Q_assign rfl) rfl rfl rfl ?_
      refine JL_nil ?_
      refine seqQ_normal ?_
      refine J_ret ?_
      exact retQ_ret _ [nodeA (d + 1) p (K, es.map (·.2)), cel bt [str to] 9, cel bo [S1.v] 36, cel bm [.int .i64 many] 3, slc tKv true S1 acc] (.cons (RV_tmp rfl) .nil) ⟨S1, rfl, rfl⟩ (Ent.innerA rfl)
theorem trange_ok (E : World) (p : Nat) (l : List Kv) (f to : Ky) (many : Int) (hl : l.length ≤ 1000000) : Does Tryz.prog E 32 [.pointer (some ⟨p, 0, none⟩), str f, str to, .int .i64 many] [treeA p l] fun v L => ∃ S : SV, v = S.v ∧ L = [treeA p l, slc tKv true S (rngL l f to many)] := by
  refine Does.of Tryz.func32 rfl Tryz.ntmps32 rfl rfl fun F => ?_
  refine J.norm ?_
  refine J_seq ?_
  refine J_region ?_
  refine L_o rfl rfl rfl (O_box rfl fun b6 => ?_)
  refine L_o rfl rfl rfl (O_box rfl fun b7 => ?_)
  refine L_q (Q_assign rfl) rfl rfl rfl ?_
  refine JL_nil ?_
  refine seqQ_normal ?_
  refine J_seq ?_
  refine J_seq ?_
  by_cases h1 : many < 1
  · skip
    refine J_region ?_
    refine L_q (Q_move rfl) rfl rfl rfl ?_
    refine L_q ((Q_peql rfl rfl).as (v' := .bool false) rfl) rfl rfl rfl ?_
    refine L_q (Q_move rfl) rfl rfl rfl ?_
    refine L_q (Q_ld 0 rfl rfl rfl rfl) rfl rfl rfl ?_
    refine L_q ((Q_lss rfl rfl).as (v' := .bool true) (congrArg Value.bool (decide_eq_true h1))) rfl rfl rfl ?_
    refine L_q (Q_pickF rfl rfl) rfl rfl rfl ?_
    refine JL_nil ?_
    refine seqQ_normal ?_
    refine J_condT rfl ?_
    refine J_seq ?_
    refine J_region ?_
    refine L_q (Q_assign rfl) rfl rfl rfl ?_
    refine JL_nil ?_
    refine seqQ_normal ?_
    refine J_ret ?_
    refine seqQ_ret ?_
    refine retQ_ret _ [treeA p l, slc tKv true SV.nil (rngL l f to many)] (.cons (RV_tmp rfl) .nil) ⟨SV.nil, rfl, rfl⟩ ?_
    rw [rngL, if_pos h1]
    exact (Ent.mk fun _ _ h => (h.lay_nil tKv true : Sat _ _ (slc tKv true SV.nil [] :: _))).trans (Ent.re [3, 0, 4] rfl)
  · skip
    refine J_region ?_
    refine L_q (Q_move rfl) rfl rfl rfl ?_
    refine L_q ((Q_peql rfl rfl).as (v' := .bool false) rfl) rfl rfl rfl ?_
    refine L_q (Q_move rfl) rfl rfl rfl ?_
    refine L_q (Q_ld 0 rfl rfl rfl rfl) rfl rfl rfl ?_
    refine L_q ((Q_lss rfl rfl).as (v' := .bool false) (congrArg Value.bool (decide_eq_false h1))) rfl rfl rfl ?_
    refine L_q (Q_pickF rfl rfl) rfl rfl rfl ?_
    refine JL_nil ?_
    refine seqQ_normal ?_
    refine J_condF rfl ?_
    refine J_skip ?_
    refine seqQ_normal ?_
    refine J_seq ?_
    refine J.ent (Ent.re [2, 0, 1, 3] rfl) ?_
    refine J.tree fun r d t hu hw hf => ?_
    refine J_region ?_
    refine L_o rfl rfl rfl (O_alloc fun b9 => ?_)
    refine JL_nil ?_
    refine seqQ_normal ?_
    refine J_seq ?_
    refine J.ent (Ent.mk fun _ _ h => (h.lay_nil tKv true : Sat _ _ (slc tKv true SV.nil [] :: _))) ?_
    have hv := visit_ok E f to many b6 b9 b7 d r (min d 1) t [] SV.nil hw (by rw [hf]; exact hu) (by rw [hf]; simp; omega)
    rw [hf] at hv
    refine J_region ?_
    refine L_q (Q_move rfl) rfl rfl rfl ?_
    refine L_q (Q_nilCheck rfl) rfl rfl rfl ?_
    refine L_q (Q_fa0 rfl) rfl rfl rfl ?_
    refine L_q (Q_ld 3 rfl rfl rfl rfl) rfl rfl rfl ?_
    refine L_q (Q_move rfl) rfl rfl rfl ?_
    refine L_q (Q_makeFunc (xs := []) (ys := [.tmp 6, .tmp 9, .tmp 7]) (vs := []) (us := [.pointer (some ⟨b6, 0, none⟩), .pointer (some ⟨b9, 0, none⟩), .pointer (some ⟨b7, 0, none⟩)]) rfl rfl) rfl rfl rfl ?_
    refine L_o rfl rfl rfl (O_call [2,5,1,4,0] [3,6] hv rfl rfl ?_)
    rintro _ _ ⟨S2, rfl, rfl⟩
    refine JL.norm ?_
    refine JL_nil ?_
    refine seqQ_normal ?_
    refine J_seq ?_
    refine J_region ?_
    refine L_q (Q_ld 2 rfl rfl rfl rfl) rfl rfl rfl ?_
    refine L_q (Q_assign rfl) rfl rfl rfl ?_
    refine JL_nil ?_
    refine seqQ_normal ?_
    refine J_ret ?_
    refine retQ_ret _ [treeA p l, slc tKv true S2 (rngL l f to many)] (.cons (RV_tmp rfl) .nil) ⟨S2, rfl, rfl⟩ ?_
    rw [rngL, if_neg h1]
    exact (Ent.re [0, 5, 4, 6] rfl).trans ((Ent.mkX hw hf).trans ((Ent.re [1, 0, 2, 3] rfl).trans (Ent.tree hu)))
end Go.Proofs.Bt
/- Is a tree one? -/
set_option autoImplicit false
namespace Go.SL
theorem J.cutB {P : Program} {E : World} {n id : Nat} {c : Code} {Q : Post} {ρ : Env} {L : List HProp} (M : Post) (h : J P E n c (blockQ id M) ρ L) (hq : ∀ e ρ L, M e ρ L → Q e ρ L) : J P E n c (blockQ id Q) ρ L := h.mono (blockQ_mono hq)
theorem Q_pneA {P : Program} {E : World} {n : Nat} {ρ : Env} {L : List HProp} {dst : Option Tmp} {ty : TypeId} {pos : String} {after : Array Edge} {g : Option (Nat × Bool)} {t t' el c : Nat} {x y : Operand} {S : SV} [u : TyU P t (.pointer el)] (hx : ρ.ev x = some (pAt S c)) (hy : ρ.ev y = some (.pointer none)) : QOp P E n ⟨dst, .binOp .neq t x y t', ty, pos, after, g⟩ ρ L (.bool true) := Q_pneq (a := some _) hx hy
end Go.SL
namespace Go.Proofs.Bt
open Go.SL
theorem Does.post {P : Program} {E : World} {f : Nat} {args : List Value} {pre pre' : List HProp} {K K2 : Value → List HProp → Prop} (h : Does P E f args pre K) (hp : ∀ F, Ent (pre' ++ [F]) (pre ++ [F])) (hk : ∀ v L, K v L → ∃ L2, K2 v L2 ∧ ∀ F, Ent (L ++ [F]) (L2 ++ [F])) : Does P E f args pre' K2 := fun F w hs =>
  (h F w (hp F E w hs)).mono fun _ _ ⟨v, L', he, hK, hs'⟩ =>
    have ⟨L2, h1, h2⟩ := hk v L' hK
    ⟨v, L2, he, h1, h2 F E _ hs'⟩
theorem Does.leaf {P : Program} {E : World} {f : Nat} {args : List Value} {p : Nat} {t : T 0} {L : List HProp} {K : Value → List HProp → Prop} (h : ∀ S R, Does P E f args (ndC p S R :: slc tKv true S (tks 0 t) :: slc tNd true R [] :: L) K) : Does P E f args (nodeA 0 p t :: L) K := fun F w hs =>
  have ⟨g, hg⟩ := Sat.leaf_out (L := L ++ [F]) hs
  h g.1 g.2 F w hg
theorem Does.inner {P : Program} {E : World} {f : Nat} {args : List Value} {d p : Nat} {t : T (d + 1)} {L : List HProp} {K : Value → List HProp → Prop} (h : ∀ (S R : SV) (es : List (Nat × T d)), es.map (·.2) = t.2 → Does P E f args (ndC p S R :: slc tKv true S t.1 :: slc tNd true R (es.map fun e => some e.1) :: stars (es.map (ndE d)) :: L) K) : Does P E f args (nodeA (d + 1) p t :: L) K := fun F w hs =>
  have ⟨g, hg⟩ := Sat.inner_out (L := L ++ [F]) hs
  h g.1.1 g.1.2.1 g.1.2.2 g.2 F w hg
/-- A bound: none, or the key of a pair of a node above. -/
abbrev Lim : Type := Option (SV × List Kv × Kv × List Kv)
abbrev limV : Lim → Value
  | none => .pointer none
  | some (S, A, _, _) => pAt S (A.length * tKv.sz + 0)
def LimOk (E : World) (C : HProp) : Lim → Prop
  | none => True
  | some (S, A, x, B) => ∀ (w : World) (L : List HProp), Sat E w (C :: L) → Rd tKv w S (A ++ x :: B)
def AbvO (l : List Kv) : Lim → Prop
  | none => True
  | some (_, _, x, _) => Abv l x.key
def BelO (l : List Kv) : Lim → Prop
  | none => True
  | some (_, _, x, _) => Bel l x.key
abbrev dep (d : Nat) : Nat → Int
  | 0 => 0
  | _ + 1 => (((d + 1 : Nat)) : Int)
theorem Ent.star_in {A B : HProp} {L : List HProp} : Ent (A :: B :: L) (star A B :: L) := fun _ _ h => Sat.mkstar h
theorem Ent.star_out {A B : HProp} {L : List HProp} : Ent (star A B :: L) (A :: B :: L) := fun _ _ h => Sat.star h
theorem LimOk.st {E : World} {C D : HProp} {lo : Lim} (h : LimOk E C lo) : LimOk E (star C D) lo := by
  cases lo with
  | none => trivial
  | some q =>
    obtain ⟨S, A, x, B⟩ := q
    exact fun w L hs => h w (D :: L) hs.star
theorem LimOk.own {E : World} {C : HProp} {S : SV} {A B : List Kv} {x : Kv} : LimOk E (star C (slc tKv true S (A ++ x :: B))) (some (S, A, x, B)) := fun w L hs => by
  have h1 := hs.star
  have h2 : Sat E w (slc tKv true S (A ++ x :: B) :: C :: L) := Sat.swap2 h1
  exact h2.rd 0 rfl
theorem kl_nle {a b : Ky} (h : kl b a = true) : (Op.bytesLess a b || a == b) = false := by
  rw [less_kl, kl_asymm h, Bool.false_or]
  exact beq_eq_false_iff_ne.2 fun e => kl_ne h e.symm
theorem kl_nge {a b : Ky} (h : kl a b = true) : (!Op.bytesLess a b) = false := by
  rw [less_kl, h]; rfl
attribute [local irreducible] J JL QOp JOp seqQ blockQ loopQ retQ slc cel hex star pur stars Does RV Ent pAt scopeQ
attribute [local irreducible] nodeA nodeX treeA
theorem up_after {X Y Z : List Kv} {k : Kv} (h : Up ((X ++ [k]) ++ Y ++ Z)) : Abv Y k.key := by
  rw [List.append_assoc, List.append_assoc] at h
  obtain ⟨_, h2, _⟩ := up_mid h
  exact fun x hx => h2 x (by simp [hx])
theorem up_before {X Y Z : List Kv} {k : Kv} (h : Up (X ++ Y ++ k :: Z)) : Bel Y k.key := by
  obtain ⟨h2, _⟩ := up_mid h
  exact fun x hx => h2 x (by simp [hx])
end Go.Proofs.Bt
/- Structs compared. -/
set_option autoImplicit false
namespace Go.SL
section
variable {P : Program} {d t : Nat} {xs ys : Array Value}
inductive EqF (P : Program) (d : Nat) (xs ys : Array Value) : List (Nat × Nat) → Bool → Prop
  | nil : EqF P d xs ys [] true
  | cons {ty off : Nat} {fs : List (Nat × Nat)} {r' : Bool} (a b : Value) {d' : TypeDesc} {r : Bool} (u : P.underlying ty = some d') (hd : isAggD d' = false) (ha : xs[off]? = some a) (hb : ys[off]? = some b) (h : EqV P ty d a b r) (h' : EqF P d xs ys fs r') : EqF P d xs ys ((ty, off) :: fs) (r && r')
theorem EqF.run {fs : List Field} {l : List (Nat × Nat)} {b : Bool} (hl : l = fs.map fun f => (f.type, f.offset)) (hn : fs.all (fun f => decide (f.name ≠ "_")) = true) (h : EqF P d xs ys l b) (w : World) : (Op.eqFields d xs ys fs).run P w = .ok b w := by
  induction fs generalizing l b with
  | nil => subst hl; cases h; simp [Op.eqFields]
  | cons f fs ih =>
    subst hl
    rw [List.map_cons] at h
    simp only [List.all_cons, Bool.and_eq_true, decide_eq_true_eq] at hn
    cases h with
    | cons a b u hd ha hb h1 h2 =>
      have e1 : (part f.type xs f.offset).run P w = .ok a w := by simp [part, run_isAgg u, hd, ha]
      have e2 : (part f.type ys f.offset).run P w = .ok b w := by simp [part, run_isAgg u, hd, hb]
      simp only [Op.eqFields, if_pos hn.1, Sem.run_bind, e1, e2, h1.h w, Result.andThen_ok]
      split
      · rename_i h3; simp only [Bool.not_eq_true'] at h3; rw [h3]; simp
      · rename_i h3; simp only [Bool.not_eq_true', Bool.not_eq_false] at h3; rw [h3, Bool.true_and]; exact ih rfl hn.2 h2
theorem EqV_struct {b : Bool} (l : List (Nat × Nat)) (ht : P.underlying t = some (.struct (P.fieldsOf t))) (hp : P.stoodInHeld t = false) (hl : l = (P.fieldsOf t).toList.map fun f => (f.type, f.offset)) (hn : (P.fieldsOf t).toList.all (fun f => decide (f.name ≠ "_")) = true) (h : EqF P d xs ys l b) :
    EqV P t (d + 1) (.agg xs) (.agg ys) b := ⟨fun w => by rw [run_equalIn_struct w d t xs ys ht hp]; exact h.run hl hn w⟩
end
end Go.SL
/- The document's pairs. -/
set_option autoImplicit false
namespace Go.Proofs.Bt
open Go.SL
abbrev Rdy (E : World) (C : HProp) (S : SV) (l : List Kv) : Prop := ∀ (w : World) (L : List HProp), Sat E w (C :: L) → Rd tKv w S l
theorem Rdy.nil {E : World} {C : HProp} : Rdy E C SV.nil [] := fun _ _ _ => ⟨rfl, Nat.le_refl _, .inl ⟨rfl, rfl⟩⟩
theorem Rdy.old {E : World} {C D : HProp} {S : SV} {l : List Kv} (h : Rdy E C S l) : Rdy E (star C D) S l := fun w L hs => h w (D :: L) hs.star
theorem Rdy.new {E : World} {C : HProp} {S : SV} {l : List Kv} : Rdy E (star C (slc tKv true S l)) S l := fun w L hs => by
  have h2 : Sat E w (slc tKv true S l :: C :: L) := Sat.swap2 hs.star
  exact h2.rd 0 rfl
theorem eqgK : EqG Tryz.prog 77 := ⟨by kernel_rfl⟩
theorem fldsK : [(9, 0), (9, 1)] = (Tryz.prog.fieldsOf 77).toList.map (fun f => (f.type, f.offset)) := by kernel_rfl
theorem eqvK (p q : Kv) : EqV Tryz.prog 77 10000 (.agg (kvV p).toArray) (.agg (kvV q).toArray) (decide (p = q)) := by
  have h : (decide (p = q)) = (decide (p.key = q.key) && (decide (p.val = q.val) && true)) := by
    obtain ⟨a, b⟩ := p
    obtain ⟨c, e⟩ := q
    simp
  rw [h]
  have u : TyU Tryz.prog 9 .string := inferInstance
  exact EqV_struct [(9, 0), (9, 1)] (by kernel_rfl) (by kernel_rfl) fldsK (by kernel_rfl)
    (.cons _ _ u.h rfl rfl rfl (EqV_str 9998 p.key q.key) (.cons _ _ u.h rfl rfl rfl (EqV_str 9998 p.val q.val) .nil))
theorem get_at {l : List Kv} (h : Up l) {k : Ky} (hh : hasL l k = true) (hp : posK l k < l.length) : l[posK l k] = ⟨k, getL l k⟩ := by
  obtain ⟨K1, K2, u, hK, hp1⟩ := hit_split h hh
  have e : getL l k = u := by
    rw [hK] at h ⊢
    obtain ⟨m1, m2, _, _⟩ := up_mid h
    exact get_hit m1 m2 u
  rw [e]
  generalize posK l k = i at *
  subst hK
  exact get_mid hp1 hp
theorem put_at {l : List Kv} (h : Up l) (k v : Ky) : putL l k v = (l.take (posK l k) ++ [⟨k, v⟩]) ++ l.drop (if hasL l k = true then posK l k + 1 else posK l k) := by
  cases hh : hasL l k with
  | true =>
    obtain ⟨K1, K2, u, hK, hp1⟩ := hit_split h hh
    rw [if_pos rfl]
    generalize posK l k = i at *
    subst hK
    obtain ⟨m1, m2, _, _⟩ := up_mid h
    rw [put_hit m1 m2 u v]
    subst hp1
    have := List.drop_left (l₁ := K1 ++ [(⟨k, u⟩ : Kv)]) (l₂ := K2)
    simp only [List.length_append, List.length_singleton, List.append_assoc, List.singleton_append] at this
    rw [List.take_left, this]; simp
  | false =>
    obtain ⟨K1, K2, hK, hp1, b1, b2⟩ := miss_split h hh
    rw [if_neg (by simp)]
    generalize posK l k = i at *
    subst hK
    subst hp1
    rw [put_miss b1 b2 v, List.take_left, List.drop_left]; simp
theorem del_at {l : List Kv} (h : Up l) {k : Ky} (hh : hasL l k = true) : delL l k = l.take (posK l k) ++ l.drop (posK l k + 1) := by
  obtain ⟨K1, K2, u, hK, hp1⟩ := hit_split h hh
  generalize posK l k = i at *
  subst hK
  obtain ⟨m1, m2, _, _⟩ := up_mid h
  rw [del_hit m1 m2 u, del_mid hp1]
def refR (f to : Ky) (most : Int) : List Kv → List Kv → List Kv
  | acc, [] => acc
  | acc, x :: xs => if (acc.length : Int) < most then refR f to most (if (!kl x.key f && (decide (to = []) || kl x.key to)) = true then acc ++ [x] else acc) xs else acc
theorem refR_full {f to : Ky} {most : Int} {acc : List Kv} (h : ¬ (acc.length : Int) < most) : ∀ l, refR f to most acc l = acc
  | [] => rfl
  | x :: xs => by rw [refR, if_neg h]
theorem refR_past {f to : Ky} {most : Int} (ht : to ≠ []) : ∀ {l acc : List Kv}, (∀ x ∈ l, kl x.key to = false) → refR f to most acc l = acc
  | [], _, _ => rfl
  | x :: xs, acc, h => by
    rw [refR]
    by_cases hl : (acc.length : Int) < most
    · rw [if_pos hl, if_neg (by rw [h x (by simp), decide_eq_false ht]; simp)]
      exact refR_past ht fun y hy => h y (by simp [hy])
    · rw [if_neg hl]
theorem refR_run {f to : Ky} {most : Int} : ∀ {l acc : List Kv}, Up l → (acc.length : Int) < most → refR f to most acc l = (runR to most acc (flF f l)).1
  | [], _, _, _ => rfl
  | x :: xs, acc, hu, hl => by
    have hux : Up xs := (List.pairwise_cons.1 hu).2
    have hxs : ∀ y ∈ xs, kl x.key y.key = true := (List.pairwise_cons.1 hu).1
    rw [refR, if_pos hl]
    cases hf : kl x.key f with
    | true =>
      rw [if_neg (by simp), show flF f (x :: xs) = flF f xs from by unfold flF; rw [List.filter_cons, hf]; rfl]
      exact refR_run hux hl
    | false =>
      rw [flF_cons hf]
      cases hb : (!decide (to = []) && !kl x.key to) with
      | true =>
        have ht : to ≠ [] := by rintro rfl; simp at hb
        have hk : kl x.key to = false := by simpa [ht] using hb
        have hs : rngStep to most acc x = (acc, false) := by unfold rngStep; rw [if_pos hb]
        rw [runR_cf (by rw [hs]), hs, if_neg (by rw [hk, decide_eq_false ht]; simp)]
        refine refR_past ht fun y hy => ?_
        cases h2 : kl y.key to with
        | false => rfl
        | true => rw [kl_trans (hxs y hy) h2] at hk; cases hk
      | false =>
        have hs : rngStep to most acc x = (acc ++ [x], decide (((acc ++ [x]).length : Int) < most)) := by unfold rngStep; rw [if_neg (by rw [hb]; simp)]
        have hc : (!false && (decide (to = []) || kl x.key to)) = true := by
          cases h1 : decide (to = []) <;> cases h2 : kl x.key to <;> simp_all
        rw [if_pos hc]
        by_cases h3 : ((acc ++ [x]).length : Int) < most
        · rw [runR_ct (by rw [hs]; exact decide_eq_true h3), hs]
          exact refR_run hux h3
        · rw [runR_cf (by rw [hs]; exact decide_eq_false h3), hs]
          exact refR_full h3 xs
theorem refR_eq {l : List Kv} (hu : Up l) (f to : Ky) (most : Int) : refR f to most [] l = rngL l f to most := by
  unfold rngL
  by_cases h : most < 1
  · rw [if_pos h]; exact refR_full (by simp; omega) l
  · rw [if_neg h]; exact refR_run hu (by simp; omega)
theorem flF_nil (l : List Kv) : flF [] l = l := List.filter_eq_self.2 fun x _ => by cases x.key <;> rfl
theorem runR_all {most : Int} : ∀ {l acc : List Kv}, ((acc.length + l.length : Nat) : Int) < most → (runR [] most acc l).1 = acc ++ l
  | [], acc, _ => by simp [runR]
  | x :: xs, acc, h => by
    have hs : rngStep [] most acc x = (acc ++ [x], decide (((acc ++ [x]).length : Int) < most)) := by unfold rngStep; rw [if_neg (by simp)]
    have h3 : ((acc ++ [x]).length : Int) < most := by simp only [List.length_append, List.length_cons, List.length_nil] at h ⊢; omega
    rw [runR_ct (by rw [hs]; exact decide_eq_true h3), hs]
    rw [runR_all (by simp only [List.length_append, List.length_cons, List.length_nil] at h ⊢; omega)]
    simp
theorem rngL_all {l : List Kv} {most : Int} (h1 : 1 ≤ most) (h : (l.length : Int) < most) : rngL l [] [] most = l := by
  unfold rngL
  rw [if_neg (by omega), flF_nil, runR_all (by simpa using h)]
  rfl
end Go.Proofs.Bt
/- The document's functions, walked. -/
set_option autoImplicit false
namespace Go.Proofs.Bt
open Go.SL
attribute [local irreducible] J JL QOp JOp seqQ blockQ loopQ retQ slc cel hex star pur stars Does RV Ent pAt scopeQ
attribute [local irreducible] nodeA nodeX treeA
theorem rsame_ok (E : World) (C : HProp) (S T : SV) (l : List Kv) (hS : Rdy E C S l) (hT : Rdy E C T l) (hl : l.length ≤ 100000) : Does Tryz.prog E 18 [S.v, T.v] [C] fun v L => v = .bool true ∧ L = [C] := by
  refine Does.of Tryz.func18 rfl Tryz.ntmps18 rfl rfl fun F => ?_
  refine J.norm ?_
  refine J.have (p := S.n = l.length ∧ T.n = l.length) (fun w hs => ⟨(hS w _ hs).1, (hT w _ hs).1⟩) fun ⟨hn, hm⟩ => ?_
  refine J_seq ?_
  refine J_region ?_
  refine L_q (Q_assign rfl) rfl rfl rfl ?_
  refine JL_nil ?_
  refine seqQ_normal ?_
  refine J_seq ?_
  refine J_seq ?_
  refine J_region ?_
  refine L_q (Q_move rfl) rfl rfl rfl ?_
  refine L_q ((Q_lenV (S := S) rfl).as (v' := .int .i64 (l.length : Int)) (by rw [hn])) rfl rfl rfl ?_
  refine L_q (Q_move rfl) rfl rfl rfl ?_
  refine L_q ((Q_lenV (S := T) rfl).as (v' := .int .i64 (l.length : Int)) (by rw [hm])) rfl rfl rfl ?_
  refine L_q ((Q_neq rfl rfl).as (v' := .bool false) (congrArg Value.bool (decide_eq_false (by simp)))) rfl rfl rfl ?_
  refine JL_nil ?_
  refine seqQ_normal ?_
  refine J_condF rfl ?_
  refine J_skip ?_
  refine seqQ_normal ?_
  refine J_seq ?_
  refine J_seq ?_
  refine J_region ?_
  refine L_q (Q_assign rfl) rfl rfl rfl ?_
  refine JL_nil ?_
  refine seqQ_normal ?_
  refine J_block ?_
  refine J_loop (fun i : Nat => i ≤ l.length) (fun i => [(0, S.v), (1, T.v), (5, .int .i64 (i : Int))]) (fun _ => [C, F]) (fun i => l.length - i) 0 (Nat.zero_le _) ⟨rfl, rfl, rfl, trivial⟩ (Ent.refl _) ?_
  intro i hi
  refine J_seq ?_
  refine J_seq ?_
  refine J_region ?_
  refine L_q (Q_move rfl) rfl rfl rfl ?_
  refine L_q (Q_move rfl) rfl rfl rfl ?_
  refine L_q ((Q_lenV (S := S) rfl).as (v' := .int .i64 (l.length : Int)) (by rw [hn])) rfl rfl rfl ?_
  refine L_q (Q_lss rfl rfl) rfl rfl rfl ?_
  refine JL_nil ?_
  refine seqQ_normal ?_
  refine J_condD rfl (fun h => ?_) (fun h => ?_)
  · have hlt : i < l.length := by omega
    refine J_skip ?_
    refine seqQ_normal ?_
    refine J_seq ?_
    refine J_block ?_
    refine J_seq ?_
    refine J_drawH [0] [0, 1, 2, 3, 4, 5, 6, 7, 8] (.quiet 0 (.quiet 1 (.quiet 2 (.quiet 3 (.quiet 4 (.quiet 5 (.quiet 6 (.quiet 7 (.quiet 8 .done))))))))) Tryz.mixed (by kernel_rfl) (by kernel_rfl) (by repeat (first | exact retQ_noP | refine seqQ_noP ?_ | refine blockQ_noP ?_ | refine loopQ_noP ?_ | refine scopeQ_noP ?_ | (intro _ _ _ h; cases h.1))) ?_
    refine S_q (Ent.re [0] rfl) rfl (Q_move rfl) rfl rfl rfl ?_
    refine S_q (Ent.re [0] rfl) rfl (Q_move rfl) rfl rfl rfl ?_
    refine S_q (Ent.re [0] rfl) rfl (Q_ix (τ := tKv) i (fun w h => hS w _ h) rfl rfl rfl hlt rfl) rfl rfl rfl ?_
    refine S_q (Ent.re [0] rfl) rfl (Q_ldEA (τ := tKv) i 0 (vs := kvV l[i]) (fun w h => hS w _ h) rfl rfl rfl hlt (by decide) rfl) rfl rfl rfl ?_
    refine S_q (Ent.re [0] rfl) rfl (Q_move rfl) rfl rfl rfl ?_
    refine S_q (Ent.re [0] rfl) rfl (Q_move rfl) rfl rfl rfl ?_
    refine S_q (Ent.re [0] rfl) rfl (Q_ix (τ := tKv) i (fun w h => hT w _ h) rfl rfl rfl hlt rfl) rfl rfl rfl ?_
    refine S_q (Ent.re [0] rfl) rfl (Q_ldEA (τ := tKv) i 0 (vs := kvV l[i]) (fun w h => hT w _ h) rfl rfl rfl hlt (by decide) rfl) rfl rfl rfl ?_
    refine S_q (Ent.re [0] rfl) rfl ((Q_gneq eqgK (eqvK l[i] l[i]) rfl rfl).as (v' := .bool false) (congrArg Value.bool (by rw [decide_eq_true rfl]; rfl))) rfl rfl rfl ?_
    refine S_nil ?_
    refine seqQ_normal ?_
    refine J_condF rfl ?_
    refine J_skip ?_
    refine blockQ_normal ?_
    refine seqQ_normal ?_
    refine J_region ?_
    refine L_q (Q_move rfl) rfl rfl rfl ?_
    refine L_q (Q_add rfl rfl (by first | exact IntWalk.i64_in _ (by omega) | exact IntWalk.u8_in _ (by omega) | exact IntWalk.u32_in _ (by omega) | exact IntWalk.u64_in _ (by omega) | rfl)) rfl rfl rfl ?_
    refine L_q (Q_assign rfl) rfl rfl rfl ?_
    refine JL_nil ?_
    exact loopQ_normal (i + 1) hlt (by show l.length - (i + 1) < l.length - i; omega) ⟨rfl, rfl, rfl, trivial⟩ (Ent.refl _)
  · refine J_exit ?_
    refine seqQ_exit ?_
    refine loopQ_exit ?_
    refine blockQ_hit ?_
    refine seqQ_normal ?_
    refine J_seq ?_
    refine J_region ?_
    refine L_q (Q_assign rfl) rfl rfl rfl ?_
    refine JL_nil ?_
    refine seqQ_normal ?_
    refine J_ret ?_
    exact retQ_ret _ [C] (.cons (RV_tmp rfl) .nil) ⟨rfl, rfl⟩ (Ent.refl _)
end Go.Proofs.Bt
/- How bytes lie in cells. -/
set_option autoImplicit false
namespace Go.Proofs
open Go.SL
def tB : Ty UInt8 := ⟨5, 1, fun b => [.int .u8 (b.toNat : Int)], fun _ => rfl, by decide, fun a v hv => by simp at hv; subst hv; rfl⟩
theorem tB_enc (b : UInt8) : tB.enc b = [.int .u8 (b.toNat : Int)] := rfl
instance : TyU Tryz.prog tB.e (.int .u8) := inferInstanceAs (TyU Tryz.prog 5 (.int .u8))
instance : TyI Tryz.prog tB.e 1 (.int .u8 0) 1 := inferInstanceAs (TyI Tryz.prog 5 1 (.int .u8 0) 1)
instance : TyU Tryz.prog 87 (.slice tB.e) := inferInstanceAs (TyU Tryz.prog 87 (.slice 5))
end Go.Proofs
/- Shifts of whole numbers that are not below zero. -/
set_option autoImplicit false
namespace Go.SL
section
variable {P : Program} {E : World} {n : Nat} {ρ : Env} {L : List HProp} {dst : Option Tmp} {ty : TypeId} {pos : String} {after : Array Edge} {g : Option (Nat × Bool)} {t t' : Nat} {x y : Operand} {k k' : IntKind} {za zb : Int}
theorem Q_shrZ (a j : Nat) (hx : ρ.ev x = some (.int k za)) (hy : ρ.ev y = some (.int k' zb)) (ha : za = (a : Int)) (hb : zb = (j : Int)) (hj : j ≤ k.bits) :
    QOp P E n ⟨dst, .binOp .shr t x y t', ty, pos, after, g⟩ ρ L (.int k ((a / 2 ^ j : Nat) : Int)) := by
  subst ha hb
  refine Q_shr hx hy (by omega) ?_
  rw [Int.toNat_natCast, Nat.min_eq_left hj, Int.fdiv_eq_ediv_of_nonneg _ (by exact_mod_cast Nat.zero_le _)]
  simp
theorem Q_shlZ (a j : Nat) (hx : ρ.ev x = some (.int .i64 za)) (hy : ρ.ev y = some (.int k' zb)) (ha : za = (a : Int)) (hb : zb = (j : Int)) (hj : j ≤ 64) (h : a * 2 ^ j < 9223372036854775808) :
    QOp P E n ⟨dst, .binOp .shl t x y t', ty, pos, after, g⟩ ρ L (.int .i64 ((a * 2 ^ j : Nat) : Int)) := by
  subst ha hb
  refine Q_shl hx hy (by omega) ?_
  rw [Int.toNat_natCast, Nat.min_eq_left (show j ≤ IntKind.i64.bits from hj)]
  have e : ((a : Int) * 2 ^ j) = ((a * 2 ^ j : Nat) : Int) := by simp
  rw [e]
  exact IntWalk.i64_in _ (by omega)
theorem Q_orZ (a b : Nat) (hx : ρ.ev x = some (.int .i64 za)) (hy : ρ.ev y = some (.int .i64 zb)) (ha : za = (a : Int)) (hb : zb = (b : Int)) (h1 : a < 2 ^ 63) (h2 : b < 2 ^ 63) :
    QOp P E n ⟨dst, .binOp .or t x y t', ty, pos, after, g⟩ ρ L (.int .i64 ((a ||| b : Nat) : Int)) := by
  subst ha hb
  refine Q_or hx hy ?_
  have h3 : a ||| b < 2 ^ 63 := Nat.or_lt_two_pow h1 h2
  show IntKind.i64.wrap ((BitVec.ofInt 64 _ ||| BitVec.ofInt 64 _).toNat : Int) = _
  rw [BitVec.ofInt_natCast, BitVec.ofInt_natCast, BitVec.toNat_or, BitVec.toNat_ofNat, BitVec.toNat_ofNat, Nat.mod_eq_of_lt (by omega), Nat.mod_eq_of_lt (by omega)]
  exact IntWalk.i64_in _ (by omega)
end
end Go.SL
/- The sum of a text, in plain Lean, and that one byte's change changes it. -/
set_option autoImplicit false
namespace Go.Proofs
def crcStep (c : Nat) : Nat := (c / 2) ^^^ (if c % 2 = 1 then 2197175160 else 0)
def crcN : Nat → Nat → Nat
  | 0, c => c
  | k + 1, c => crcStep (crcN k c)
def crcB (c : Nat) (b : UInt8) : Nat := crcN 8 (c ^^^ b.toNat)
def crcMore (c : Nat) (s : List UInt8) : Nat := s.foldl crcB c
def crc (s : List UInt8) : Nat := 4294967295 ^^^ crcMore 4294967295 s

theorem crcStep_lt (c : Nat) (h : c < 2 ^ 32) : crcStep c < 2 ^ 32 := by
  unfold crcStep
  refine Nat.xor_lt_two_pow (by omega) ?_
  split <;> decide
theorem crcN_lt (k c : Nat) (h : c < 2 ^ 32) : crcN k c < 2 ^ 32 := by
  induction k with
  | zero => exact h
  | succ k ih => exact crcStep_lt _ ih
theorem crcB_lt (c : Nat) (b : UInt8) (h : c < 2 ^ 32) : crcB c b < 2 ^ 32 :=
  crcN_lt _ _ (Nat.xor_lt_two_pow h (by have := b.toNat_lt; omega))
theorem crcMore_lt (s : List UInt8) : ∀ c, c < 2 ^ 32 → crcMore c s < 2 ^ 32 := by
  induction s with
  | nil => intro c h; exact h
  | cons b s ih => intro c h; exact ih _ (crcB_lt c b h)
theorem crc_lt (s : List UInt8) : crc s < 2 ^ 32 := Nat.xor_lt_two_pow (by decide) (crcMore_lt s _ (by decide))
theorem crcMore_take (c : Nat) (s : List UInt8) (k : Nat) (h : k < s.length) : crcMore c (s.take (k + 1)) = crcB (crcMore c (s.take k)) s[k] := by
  unfold crcMore
  rw [List.take_succ_eq_append_getElem h, List.foldl_append]
  rfl
theorem crcMore_append (c : Nat) (s t : List UInt8) : crcMore c (s ++ t) = crcMore (crcMore c s) t := by
  unfold crcMore; rw [List.foldl_append]

theorem xor_cancel {a b p : Nat} (h : a ^^^ p = b ^^^ p) : a = b := by
  have := congrArg (· ^^^ p) h
  simpa [Nat.xor_assoc] using this
theorem xor_cancel_left {a b p : Nat} (h : p ^^^ a = p ^^^ b) : a = b := by
  rw [Nat.xor_comm p a, Nat.xor_comm p b] at h
  exact xor_cancel h
theorem crcStep_inj (c d : Nat) (hc : c < 2 ^ 32) (hd : d < 2 ^ 32) (h : crcStep c = crcStep d) : c = d := by
  unfold crcStep at h
  have key : ∀ a b : Nat, a < 2 ^ 31 → b < 2 ^ 31 → a ^^^ 2197175160 = b ^^^ 0 → False := by
    intro a b ha hb h
    have h2 : (2197175160 : Nat) = a ^^^ b := by
      rw [Nat.xor_zero] at h
      rw [← h, ← Nat.xor_assoc, Nat.xor_self, Nat.zero_xor]
    have h3 : a ^^^ b < 2 ^ 31 := Nat.xor_lt_two_pow ha hb
    rw [← h2] at h3
    exact absurd h3 (by decide)
  split at h <;> split at h
  · have := xor_cancel h; omega
  · exact (key _ _ (by omega) (by omega) h).elim
  · exact (key _ _ (by omega) (by omega) h.symm).elim
  · have := xor_cancel h; omega
theorem crcN_inj (k : Nat) : ∀ c d : Nat, c < 2 ^ 32 → d < 2 ^ 32 → crcN k c = crcN k d → c = d := by
  induction k with
  | zero => intro c d _ _ h; exact h
  | succ k ih => intro c d hc hd h; exact ih c d hc hd (crcStep_inj _ _ (crcN_lt k c hc) (crcN_lt k d hd) h)
theorem crcMore_inj (s : List UInt8) : ∀ c d : Nat, c < 2 ^ 32 → d < 2 ^ 32 → crcMore c s = crcMore d s → c = d := by
  induction s with
  | nil => intro c d _ _ h; exact h
  | cons b s ih =>
    intro c d hc hd h
    have h1 := ih _ _ (crcB_lt c b hc) (crcB_lt d b hd) h
    have hb : b.toNat < 2 ^ 32 := by have := b.toNat_lt; omega
    exact xor_cancel (crcN_inj 8 _ _ (Nat.xor_lt_two_pow hc hb) (Nat.xor_lt_two_pow hd hb) h1)
theorem crcB_inj (c : Nat) (b d : UInt8) (hc : c < 2 ^ 32) (h : crcB c b = crcB c d) : b = d := by
  have hb : b.toNat < 2 ^ 32 := by have := b.toNat_lt; omega
  have hd : d.toNat < 2 ^ 32 := by have := d.toNat_lt; omega
  have := xor_cancel_left (crcN_inj 8 _ _ (Nat.xor_lt_two_pow hc hb) (Nat.xor_lt_two_pow hc hd) h)
  exact UInt8.toNat_inj.1 this
/-- One byte's change changes the sum. -/
theorem crc_set (s : List UInt8) (k : Nat) (b : UInt8) (hk : k < s.length) (hb : b ≠ s[k]) : crc (s.set k b) ≠ crc s := by
  intro h
  have h1 := xor_cancel_left h
  have e1 : s = s.take k ++ s[k] :: s.drop (k + 1) := by rw [List.getElem_cons_drop, List.take_append_drop]
  have e2 : s.set k b = s.take k ++ b :: s.drop (k + 1) := by rw [List.set_eq_take_append_cons_drop, if_pos hk]
  rw [e2] at h1
  have h2 : crcMore 4294967295 s = crcMore 4294967295 (s.take k ++ s[k] :: s.drop (k + 1)) := congrArg _ e1
  rw [h2, crcMore_append, crcMore_append] at h1
  have hlt := crcMore_lt (s.take k) 4294967295 (by decide)
  exact hb (crcB_inj _ _ _ hlt (crcMore_inj _ _ _ (crcB_lt _ _ hlt) (crcB_lt _ _ hlt) h1))
end Go.Proofs
/- Slots, in plain Lean: their words, whether they are right, which is told. -/
set_option autoImplicit false
namespace Go.Proofs
def be (s : List UInt8) : Nat := s.foldl (fun a b => a * 256 + b.toNat) 0
theorem be_snoc (s : List UInt8) (b : UInt8) : be (s ++ [b]) = be s * 256 + b.toNat := by simp [be, List.foldl_append]
theorem be_lt_aux (s : List UInt8) : ∀ a m : Nat, a < m → s.foldl (fun a b => a * 256 + b.toNat) a < m * 256 ^ s.length := by
  induction s with
  | nil => intro a m h; simpa using h
  | cons b s ih =>
    intro a m h
    have hb := b.toNat_lt
    have := ih (a * 256 + b.toNat) (m * 256) (by omega)
    rw [List.length_cons, Nat.pow_succ, Nat.mul_comm (256 ^ s.length) 256, ← Nat.mul_assoc]
    exact this
theorem be_lt (s : List UInt8) : be s < 256 ^ s.length := by have := be_lt_aux s 0 1 (by omega); rwa [Nat.one_mul] at this
theorem be_lt4 (s : List UInt8) (n : Nat) (h : s.length ≤ n) : be s < 256 ^ n := Nat.lt_of_lt_of_le (be_lt s) (Nat.pow_le_pow_right (by decide) h)

/-- The word j when k bytes have been taken. -/
def wd (l : List UInt8) (k j : Nat) : Nat := be (((l.take k).drop (4 * j)).take 4)
theorem wd_lt (l : List UInt8) (k j : Nat) : wd l k j < 2 ^ 32 := be_lt4 _ 4 (by simp; omega)
theorem wd_lt24 (l : List UInt8) (k : Nat) : wd l k (k / 4) < 2 ^ 24 := be_lt4 _ 3 (by simp; omega)
theorem wd_at (l : List UInt8) (k : Nat) (h : k < l.length) : wd l (k + 1) (k / 4) = wd l k (k / 4) * 256 + l[k].toNat := by
  unfold wd
  have e : l.take (k + 1) = l.take k ++ [l[k]] := List.take_succ_eq_append_getElem h
  have hlen : (l.take k).length = k := by simp; omega
  have e1 : ((l.take k).drop (4 * (k / 4))).take 4 = (l.take k).drop (4 * (k / 4)) := List.take_of_length_le (by rw [List.length_drop, hlen]; omega)
  have e2 : ((l.take k).drop (4 * (k / 4)) ++ [l[k]]).take 4 = (l.take k).drop (4 * (k / 4)) ++ [l[k]] := List.take_of_length_le (by rw [List.length_append, List.length_drop, hlen]; simp; omega)
  rw [e, List.drop_append_of_le_length (by omega), e1, e2, be_snoc]
theorem wd_other (l : List UInt8) (k j : Nat) (h : k < l.length) (hj : j ≠ k / 4) : wd l (k + 1) j = wd l k j := by
  unfold wd
  have e : l.take (k + 1) = l.take k ++ [l[k]] := List.take_succ_eq_append_getElem h
  have hlen : (l.take k).length = k := by simp; omega
  by_cases hlt : j < k / 4
  · rw [e, List.drop_append_of_le_length (by omega), List.take_append_of_le_length (by simp; omega)]
  · rw [List.drop_of_length_le (by simp; omega), List.drop_of_length_le (by simp; omega)]
theorem wd_or (l : List UInt8) (k : Nat) (h : k < l.length) : (wd l k (k / 4) * 2 ^ 8 % 2 ^ 32 ||| l[k].toNat % 2 ^ 32) = wd l (k + 1) (k / 4) := by
  have h1 := wd_lt24 l k
  have h2 := l[k].toNat_lt
  rw [wd_at l k h, Nat.mod_eq_of_lt (by omega), Nat.mod_eq_of_lt (by omega), Nat.mul_comm]
  have := Nat.two_pow_add_eq_or_of_lt (i := 8) (b := l[k].toNat) (by omega) (wd l k (k / 4))
  rw [← this]
/-- The word j. -/
def nw (l : List UInt8) (j : Nat) : Nat := be ((l.drop (4 * j)).take 4)
theorem nw_lt (l : List UInt8) (j : Nat) : nw l j < 2 ^ 32 := be_lt4 _ 4 (by simp; omega)
theorem wd_12 (l : List UInt8) (j : Nat) (h : j < 3) : wd l 12 j = nw l j := by
  unfold wd nw
  rw [List.drop_take, List.take_take, Nat.min_eq_left (by omega)]
def rightB (l : List UInt8) : Bool := decide (12 ≤ l.length) && (decide (nw l 0 = crc (l.drop 4)) && decide (nw l 2 = (l.length - 12) % 2 ^ 32))
def told (a b : List UInt8) : Int := if rightB b = true ∧ (rightB a = false ∨ nw a 1 < nw b 1) then 1 else if rightB a = true then 0 else -1
def four (n : Nat) : List UInt8 := [UInt8.ofNat (n / 2 ^ 24), UInt8.ofNat (n / 2 ^ 16), UInt8.ofNat (n / 2 ^ 8), UInt8.ofNat n]
end Go.Proofs
/- Texts one behind the other, in plain Lean. -/
set_option autoImplicit false
namespace Go.Proofs
def texts (l : List (List UInt8)) : List UInt8 := l.flatMap fun s => four s.length ++ s
theorem texts_succ (l : List (List UInt8)) (k : Nat) (h : k < l.length) : texts (l.take (k + 1)) = texts (l.take k) ++ (four l[k].length ++ l[k]) := by
  unfold texts
  rw [List.take_succ_eq_append_getElem h, List.flatMap_append]
  simp
theorem texts_le (l : List (List UInt8)) (k : Nat) : (texts (l.take k)).length ≤ (texts l).length := by
  have e : texts l = texts (l.take k) ++ texts (l.drop k) := by
    unfold texts
    rw [← List.flatMap_append, List.take_append_drop]
  rw [e, List.length_append]; omega
theorem or4 (a b c d : Nat) (hb : b < 256) (hc : c < 256) (hd : d < 256) : (a * 2 ^ 24 ||| b * 2 ^ 16 ||| c * 2 ^ 8 ||| d) = ((a * 256 + b) * 256 + c) * 256 + d := by
  have h1 := Nat.two_pow_add_eq_or_of_lt (i := 24) (b := b * 2 ^ 16) (by omega) a
  have h2 := Nat.two_pow_add_eq_or_of_lt (i := 16) (b := c * 2 ^ 8) (by omega) (a * 2 ^ 8 + b)
  have h3 := Nat.two_pow_add_eq_or_of_lt (i := 8) (b := d) (by omega) ((a * 2 ^ 8 + b) * 2 ^ 8 + c)
  rw [Nat.mul_comm a, ← h1, show 2 ^ 24 * a + b * 2 ^ 16 = 2 ^ 16 * (a * 2 ^ 8 + b) by omega, ← h2, show 2 ^ 16 * (a * 2 ^ 8 + b) + c * 2 ^ 8 = 2 ^ 8 * ((a * 2 ^ 8 + b) * 2 ^ 8 + c) by omega, ← h3]
  omega
theorem be4 (s : List UInt8) (h : 4 ≤ s.length) : be (s.take 4) = ((s[0].toNat * 256 + s[1].toNat) * 256 + s[2].toNat) * 256 + s[3].toNat := by
  match s, h with
  | a :: b :: c :: d :: r, _ => simp [be]
/-- The text at the beginning, and the rest. -/
def nextT (s : List UInt8) : Option (List UInt8 × List UInt8) :=
  if s.length < 4 then none else if (s.drop 4).length < be (s.take 4) then none else some ((s.drop 4).take (be (s.take 4)), (s.drop 4).drop (be (s.take 4)))
theorem nextT_lt {s t r : List UInt8} (h : nextT s = some (t, r)) : r.length < s.length ∧ t.length ≤ s.length := by
  unfold nextT at h
  split at h
  · cases h
  · split at h
    · cases h
    · simp only [Option.some.injEq, Prod.mk.injEq] at h
      obtain ⟨rfl, rfl⟩ := h
      simp; omega
def readT (s : List UInt8) : Option (List (List UInt8)) :=
  if s = [] then some [] else match h : nextT s with
    | none => none
    | some (t, r) => (readT r).map (t :: ·)
termination_by s.length
decreasing_by exact (nextT_lt h).1
theorem readT_nil : readT [] = some [] := by rw [readT]; rfl
theorem readT_none {s : List UInt8} (h : s ≠ []) (h2 : nextT s = none) : readT s = none := by
  rw [readT, if_neg h]
  split
  · rfl
  · rename_i h3; rw [h2] at h3; cases h3
theorem readT_some {s t r : List UInt8} (h : s ≠ []) (h2 : nextT s = some (t, r)) : readT s = (readT r).map (t :: ·) := by
  rw [readT, if_neg h]
  split
  · rename_i h3; rw [h2] at h3; cases h3
  · rename_i t' r' h3; rw [h2] at h3; cases h3; rfl
def readL (s : List UInt8) : List (List UInt8) := (readT s).getD []
def readE (s : List UInt8) : Int := if (readT s).isNone then 3 else 0
end Go.Proofs
