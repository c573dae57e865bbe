/- The pairs gone over; a range. -/
import Derived.Test.YtihlnjafeocbnaaTree12
set_option autoImplicit false
namespace Go.Proofs
open Go.SL
def rngL (l : List Kv) (f to : Ky) (many : Int) : List Kv := if many < 1 then [] else (runR to many [] (flF f l)).1
attribute [local irreducible] J JL QOp JOp seqQ blockQ loopQ retQ slc cel hex star pur stars Does RV Ent pAt scopeQ
attribute [local irreducible] nodeA nodeX treeA
theorem visit_ok (E : World) (f to : Ky) (many : Int) (bt bo bm : Nat) : ∀ (d p m : Nat) (t : T d) (acc : List Kv) (S : SV), wf m d t → Up (flat d t) → acc.length + (flat d t).length ≤ 2000000 →
    Does Try.prog E 28 [.pointer (some ⟨p, 0, none⟩), str f, eachV bt bo bm] [nodeA d p t, cel bt [str to] 9, cel bo [S.v] 27, cel bm [.int .i64 many] 3, slc tKv true S acc]
    fun v L => ∃ S' : SV, v = .bool (runR to many acc (flF f (flat d t))).2 ∧ L = [nodeA d p t, cel bt [str to] 9, cel bo [S'.v] 27, cel bm [.int .i64 many] 3, slc tKv true S' (runR to many acc (flF f (flat d t))).1] := by
  intro d
  induction d with
  | zero =>
    intro p m t acc0 S0 hw hu hle
    have h7 := (wf_ks hw).2
    have hku := ks_up hw hu
    have hpl := pos_le (tks 0 t) f
    refine Does.of Try.func28 rfl Try.ntmps28 rfl rfl fun F => ?_
    refine J.norm ?_
    refine J.leaf fun S R => ?_
    have hf := find_ok E p S R (tks 0 t) f (by omega) hku
    have efl : flF f (flat 0 t) = (tks 0 t).drop (posK (tks 0 t) f) := flF_drop hku
    have hle : acc0.length + (tks 0 t).length ≤ 2000000 := hle
    rw [efl]
    refine J_seq ?_
    refine J_region ?_
    refine L_q (Q_assign rfl) rfl rfl rfl ?_
    refine JL_nil ?_
    refine seqQ_normal ?_
    refine J_seq ?_
    refine J_region ?_
    refine L_q (Q_move rfl) rfl rfl rfl ?_
    refine L_q (Q_move rfl) rfl rfl rfl ?_
    refine L_o rfl rfl rfl (O_call [0,1] [2,3,4,5,6,7] hf rfl rfl ?_)
    rintro _ _ ⟨rfl, rfl⟩
    refine JL.norm ?_
    refine L_q (Q_move rfl) rfl rfl rfl ?_
    refine L_q (Q_extract (v := .int .i64 (posK (tks 0 t) f : Int)) rfl rfl) rfl rfl rfl ?_
    refine L_q (Q_extract (v := .bool (hasL (tks 0 t) f)) rfl rfl) rfl rfl rfl ?_
    refine L_q (Q_assign rfl) rfl rfl rfl ?_
    refine L_q (Q_assign rfl) rfl rfl rfl ?_
    refine JL_nil ?_
    refine seqQ_normal ?_
    refine J_seq ?_
    refine J_block ?_
    refine J_loop (fun i : Nat × List Kv × SV => i.1 ≤ (tks 0 t).length + 1 ∧ i.2.1.length + ((tks 0 t).drop i.1).length ≤ 2000000 ∧ runR to many acc0 ((tks 0 t).drop (posK (tks 0 t) f)) = runR to many i.2.1 ((tks 0 t).drop i.1)) (fun i => [(0, .pointer (some ⟨p, 0, none⟩)), (1, str f), (2, eachV bt bo bm), (7, .int .i64 (i.1 : Int))])
      (fun i => [ndC p S R, slc tKv true S (tks 0 t), slc tNd true R [], cel bt [str to] 9, cel bo [i.2.2.v] 27, cel bm [.int .i64 many] 3, slc tKv true i.2.2 i.2.1, F]) (fun i => (tks 0 t).length + 1 - i.1) (posK (tks 0 t) f, acc0, S0) ⟨by omega, by simp only [List.length_drop]; omega, rfl⟩ ⟨rfl, rfl, rfl, rfl, trivial⟩ (Ent.refl _) ?_
    rintro ⟨i, acc, S1⟩ ⟨hi, hal, hr⟩
    dsimp only at hi hal hr ⊢
    generalize posK (tks 0 t) f = p0 at *
    rw [hr]
    refine J_seq ?_
    refine J_seq ?_
    refine J_region ?_
    refine L_q (Q_move rfl) rfl rfl rfl ?_
    refine L_q (Q_move rfl) rfl rfl rfl ?_
    refine L_q (Q_nilCheck rfl) rfl rfl rfl ?_
    refine L_q (Q_fa0 rfl) rfl rfl rfl ?_
    refine L_q (Q_ld 0 rfl rfl rfl rfl) rfl rfl rfl ?_
    refine L_q (Q_lenAt 1 rfl rfl) rfl rfl rfl ?_
    refine L_q (Q_leq rfl rfl) rfl rfl rfl ?_
    refine JL_nil ?_
    refine seqQ_normal ?_
    refine J_condD rfl (fun h => ?_) (fun h => ?_)
    · have hil : i ≤ (tks 0 t).length := by omega
      refine J_skip ?_
      refine seqQ_normal ?_
      refine J_seq ?_
      refine J_block ?_
      refine J_seq ?_
      refine J_seq ?_
      refine J_region ?_
      refine L_q (Q_move rfl) rfl rfl rfl ?_
      refine L_o rfl rfl rfl (O_call [0,2] [1,3,4,5,6,7] (leaf_ok E p S R []) rfl rfl ?_)
      rintro _ _ ⟨rfl, rfl⟩
      refine JL.norm ?_
      refine L_q ((Q_not rfl).as (v' := .bool false) rfl) rfl rfl rfl ?_
      refine L_q (Q_move rfl) rfl rfl rfl ?_
      refine L_n rfl rfl rfl ?_
      refine L_n rfl rfl rfl ?_
      refine L_n rfl rfl rfl ?_
      refine L_n rfl rfl rfl ?_
      refine L_n rfl rfl rfl ?_
      refine L_n rfl rfl rfl ?_
      refine L_n rfl rfl rfl ?_
      refine L_n rfl rfl rfl ?_
      refine L_n rfl rfl rfl ?_
      refine L_n rfl rfl rfl ?_
      refine L_n rfl rfl rfl ?_
      refine L_q (Q_pickF rfl rfl) rfl rfl rfl ?_
      refine JL_nil ?_
      refine seqQ_normal ?_
      refine J_condF rfl ?_
      refine J_skip ?_
      refine seqQ_normal ?_
      refine J_seq ?_
      rcases Nat.lt_or_ge i (tks 0 t).length with hlt | hge
      · have hd := List.drop_eq_getElem_cons hlt
        have hsl := rngStep_len to many acc (tks 0 t)[i]
        simp only [List.length_drop] at hal
        have he := each_ok E (tks 0 t)[i] to many bt bo bm S1 acc (by omega)
        cases hb : (rngStep to many acc (tks 0 t)[i]).2 with
        | true =>
          rw [hb] at he
          refine J_region ?_
          refine L_q (Q_move rfl) rfl rfl rfl ?_
          refine L_q (Q_move rfl) rfl rfl rfl ?_
          refine L_q (Q_nilCheck rfl) rfl rfl rfl ?_
          refine L_q (Q_fa0 rfl) rfl rfl rfl ?_
          refine L_q (Q_ld 0 rfl rfl rfl rfl) rfl rfl rfl ?_
          refine L_q (Q_lenAt 2 rfl rfl) rfl rfl rfl ?_
          refine L_q ((Q_lss rfl rfl).as (v' := .bool true) (congrArg Value.bool (decide_eq_true (by omega)))) rfl rfl rfl ?_
          refine L_q (Q_move rfl) rfl rfl rfl ?_
          refine L_q (Q_move rfl) rfl rfl rfl ?_
          refine L_q (Q_move rfl) rfl rfl rfl ?_
          refine L_q (Q_nilCheck rfl) rfl rfl rfl ?_
          refine L_q (Q_fa0 rfl) rfl rfl rfl ?_
          refine L_q (Q_ld 0 rfl rfl rfl rfl) rfl rfl rfl ?_
          refine L_q (Q_move rfl) rfl rfl rfl ?_
          refine L_q (Q_ixAt 2 i rfl rfl rfl rfl hlt rfl) rfl rfl rfl ?_
          refine L_q (Q_ldEAAt 2 i 0 (vs := kvV (tks 0 t)[i]) rfl rfl rfl rfl hlt (by decide) rfl) rfl rfl rfl ?_
          refine L_o rfl rfl rfl (O_dyn [3,4,5,6] [0,1,2,7] rfl rfl rfl he rfl ?_)
          rintro _ _ ⟨S2, rfl, rfl⟩
          refine JL.norm ?_
          refine L_q ((Q_not rfl).as (v' := .bool false) rfl) rfl rfl rfl ?_
          refine L_q (Q_pickT rfl rfl) rfl rfl rfl ?_
          refine JL_nil ?_
          refine seqQ_normal ?_
          refine J_condF rfl ?_
          refine J_skip ?_
          refine blockQ_normal ?_
          refine seqQ_normal ?_
          refine J_region ?_
          refine L_q (Q_move rfl) rfl rfl rfl ?_
          refine L_q (Q_add rfl rfl (by first | exact IntWalk.i64_in _ (by omega) | exact IntWalk.u8_in _ (by omega) | exact IntWalk.u32_in _ (by omega) | exact IntWalk.u64_in _ (by omega) | rfl)) rfl rfl rfl ?_
          refine L_q (Q_assign rfl) rfl rfl rfl ?_
          refine JL_nil ?_
          refine loopQ_normal (i + 1, (rngStep to many acc (tks 0 t)[i]).1, S2) ⟨by omega, by simp only [List.length_drop]; omega, by rw [hd]; exact runR_ct hb⟩ (by show _ - (i + 1) < _ - i; omega) ⟨rfl, rfl, rfl, rfl, trivial⟩ (Ent.re [4, 6, 5, 0, 1, 2, 3, 7] rfl)
        | false =>
          rw [hb] at he
          rw [hd, runR_cf hb]
          refine J_region ?_
          refine L_q (Q_move rfl) rfl rfl rfl ?_
          refine L_q (Q_move rfl) rfl rfl rfl ?_
          refine L_q (Q_nilCheck rfl) rfl rfl rfl ?_
          refine L_q (Q_fa0 rfl) rfl rfl rfl ?_
          refine L_q (Q_ld 0 rfl rfl rfl rfl) rfl rfl rfl ?_
          refine L_q (Q_lenAt 2 rfl rfl) rfl rfl rfl ?_
          refine L_q ((Q_lss rfl rfl).as (v' := .bool true) (congrArg Value.bool (decide_eq_true (by omega)))) rfl rfl rfl ?_
          refine L_q (Q_move rfl) rfl rfl rfl ?_
          refine L_q (Q_move rfl) rfl rfl rfl ?_
          refine L_q (Q_move rfl) rfl rfl rfl ?_
          refine L_q (Q_nilCheck rfl) rfl rfl rfl ?_
          refine L_q (Q_fa0 rfl) rfl rfl rfl ?_
          refine L_q (Q_ld 0 rfl rfl rfl rfl) rfl rfl rfl ?_
          refine L_q (Q_move rfl) rfl rfl rfl ?_
          refine L_q (Q_ixAt 2 i rfl rfl rfl rfl hlt rfl) rfl rfl rfl ?_
          refine L_q (Q_ldEAAt 2 i 0 (vs := kvV (tks 0 t)[i]) rfl rfl rfl rfl hlt (by decide) rfl) rfl rfl rfl ?_
          refine L_o rfl rfl rfl (O_dyn [3,4,5,6] [0,1,2,7] rfl rfl rfl he rfl ?_)
          rintro _ _ ⟨S2, rfl, rfl⟩
          refine JL.norm ?_
          refine L_q ((Q_not rfl).as (v' := .bool true) rfl) rfl rfl rfl ?_
          refine L_q (Q_pickT rfl rfl) rfl rfl rfl ?_
          refine JL_nil ?_
          refine seqQ_normal ?_
          refine J_condT rfl ?_
          refine J_seq ?_
          refine J_region ?_
          refine L_q (Q_assign rfl) rfl rfl rfl ?_
          refine JL_nil ?_
          refine seqQ_normal ?_
          refine J_ret ?_
          refine blockQ_ret ?_
          refine seqQ_ret ?_
          refine loopQ_ret ?_
          refine blockQ_ret ?_
          refine seqQ_ret ?_
          refine retQ_ret _ [nodeA 0 p t, cel bt [str to] 9, cel bo [S2.v] 27, cel bm [.int .i64 many] 3, slc tKv true S2 (rngStep to many acc (tks 0 t)[i]).1] (.cons (RV_tmp rfl) .nil) ⟨S2, rfl, rfl⟩ ?_
          exact (Ent.re [4, 6, 5, 0, 1, 2, 3, 7] rfl).trans Ent.leafA
      · have hd : (tks 0 t).drop i = [] := List.drop_eq_nil_of_le hge
        have hd2 : (tks 0 t).drop (i + 1) = [] := List.drop_eq_nil_of_le (by omega)
        simp only [List.length_drop] at hal
        refine J_region ?_
        refine L_q (Q_move rfl) rfl rfl rfl ?_
        refine L_q (Q_move rfl) rfl rfl rfl ?_
        refine L_q (Q_nilCheck rfl) rfl rfl rfl ?_
        refine L_q (Q_fa0 rfl) rfl rfl rfl ?_
        refine L_q (Q_ld 0 rfl rfl rfl rfl) rfl rfl rfl ?_
        refine L_q (Q_lenAt 2 rfl rfl) rfl rfl rfl ?_
        refine L_q ((Q_lss rfl rfl).as (v' := .bool false) (congrArg Value.bool (decide_eq_false (by omega)))) rfl rfl rfl ?_
        refine L_q (Q_move rfl) rfl rfl rfl ?_
        refine L_n rfl rfl rfl ?_
        refine L_n rfl rfl rfl ?_
        refine L_n rfl rfl rfl ?_
        refine L_n rfl rfl rfl ?_
        refine L_n rfl rfl rfl ?_
        refine L_n rfl rfl rfl ?_
        refine L_n rfl rfl rfl ?_
        refine L_n rfl rfl rfl ?_
        refine L_n rfl rfl rfl ?_
        refine L_n rfl rfl rfl ?_
        refine L_q (Q_pickF rfl rfl) rfl rfl rfl ?_
        refine JL_nil ?_
        refine seqQ_normal ?_
        refine J_condF rfl ?_
        refine J_skip ?_
        refine blockQ_normal ?_
        refine seqQ_normal ?_
        refine J_region ?_
        refine L_q (Q_move rfl) rfl rfl rfl ?_
        refine L_q (Q_add rfl rfl (by first | exact IntWalk.i64_in _ (by omega) | exact IntWalk.u8_in _ (by omega) | exact IntWalk.u32_in _ (by omega) | exact IntWalk.u64_in _ (by omega) | rfl)) rfl rfl rfl ?_
        refine L_q (Q_assign rfl) rfl rfl rfl ?_
        refine JL_nil ?_
        exact loopQ_normal (i + 1, acc, S1) ⟨by omega, by simp only [List.length_drop]; omega, by rw [hd]; show _ = runR to many acc ((tks 0 t).drop (i + 1)); rw [hd2]⟩ (by show _ - (i + 1) < _ - i; omega) ⟨rfl, rfl, rfl, rfl, trivial⟩ (Ent.re [0, 2, 1, 3, 4, 5, 6, 7] rfl)
    · have hd : (tks 0 t).drop i = [] := List.drop_eq_nil_of_le (by omega)
      rw [hd]
      refine J_exit ?_
      refine seqQ_exit ?_
      refine loopQ_exit ?_
      refine blockQ_hit ?_
      refine seqQ_normal ?_
      refine J_seq ?_
      refine J_region ?_
      refine L_q (Q_assign rfl) rfl rfl rfl ?_
      refine JL_nil ?_
      refine seqQ_normal ?_
      refine J_ret ?_
      exact retQ_ret _ [nodeA 0 p t, cel bt [str to] 9, cel bo [S1.v] 27, cel bm [.int .i64 many] 3, slc tKv true S1 acc] (.cons (RV_tmp rfl) .nil) ⟨S1, rfl, rfl⟩ Ent.leafA
  | succ d ih =>
    intro p m t acc0 S0 hw hu hle
    obtain ⟨K, C⟩ := t
    have hku : Up K := ks_up hw hu
    obtain ⟨_, h7, hC, hwc⟩ := hw
    dsimp only at h7 hC hwc
    have hpl := pos_le K f
    obtain ⟨q1, q2, q3⟩ := rest_pos (f := f) hC hu hku
    refine Does.of Try.func28 rfl Try.ntmps28 rfl rfl fun F => ?_
    refine J.norm ?_
    refine J.inner fun S R es hes => ?_
    dsimp only at hes ⊢
    subst hes
    rw [List.length_map] at hC
    have hf := find_ok E p S R K f (by omega) hku
    have hlf := leaf_ok E p S R (pL es)
    rw [show decide (((pL es).length : Int) = 0) = false from decide_eq_false (by rw [pL_len]; omega)] at hlf
    rw [q1]
    refine J_seq ?_
    refine J_region ?_
    refine L_q (Q_assign rfl) rfl rfl rfl ?_
    refine JL_nil ?_
    refine seqQ_normal ?_
    refine J_seq ?_
    refine J_region ?_
    refine L_q (Q_move rfl) rfl rfl rfl ?_
    refine L_q (Q_move rfl) rfl rfl rfl ?_
    refine L_o rfl rfl rfl (O_call [0,1] [2,3,4,5,6,7,8] hf rfl rfl ?_)
    rintro _ _ ⟨rfl, rfl⟩
    refine JL.norm ?_
    refine L_q (Q_move rfl) rfl rfl rfl ?_
    refine L_q (Q_extract (v := .int .i64 (posK K f : Int)) rfl rfl) rfl rfl rfl ?_
    refine L_q (Q_extract (v := .bool (hasL K f)) rfl rfl) rfl rfl rfl ?_
    refine L_q (Q_assign rfl) rfl rfl rfl ?_
    refine L_q (Q_assign rfl) rfl rfl rfl ?_
    refine JL_nil ?_
    refine seqQ_normal ?_
    refine J_seq ?_
    refine J_block ?_
    refine J_loop (fun i : Nat × List Kv × SV => posK K f ≤ i.1 ∧ i.1 ≤ K.length + 1 ∧ i.2.1.length + (restF d K (es.map (·.2)) i.1).length ≤ 2000000 ∧ Up (restF d K (es.map (·.2)) i.1) ∧ runR to many acc0 (flF f (restF d K (es.map (·.2)) (posK K f))) = runR to many i.2.1 (flF f (restF d K (es.map (·.2)) i.1))) (fun i => [(0, .pointer (some ⟨p, 0, none⟩)), (1, str f), (2, eachV bt bo bm), (7, .int .i64 (i.1 : Int))])
      (fun i => [ndC p S R, slc tKv true S K, slc tNd true R (pL es), stars (es.map (ndE d)), cel bt [str to] 9, cel bo [i.2.2.v] 27, cel bm [.int .i64 many] 3, slc tKv true i.2.2 i.2.1, F]) (fun i => K.length + 1 - i.1) (posK K f, acc0, S0) ⟨Nat.le_refl _, by show posK K f ≤ _; omega, by show acc0.length + (restF d K (es.map (·.2)) (posK K f)).length ≤ _; omega, q2, rfl⟩ ⟨rfl, rfl, rfl, rfl, trivial⟩ (Ent.refl _) ?_
    rintro ⟨i, acc, S1⟩ ⟨hi0, hi, hal, hup, hr⟩
    dsimp only at hi0 hi hal hup hr ⊢
    rw [hr]
    refine J_seq ?_
    refine J_seq ?_
    refine J_region ?_
    refine L_q (Q_move rfl) rfl rfl rfl ?_
    refine L_q (Q_move rfl) rfl rfl rfl ?_
    refine L_q (Q_nilCheck rfl) rfl rfl rfl ?_
    refine L_q (Q_fa0 rfl) rfl rfl rfl ?_
    refine L_q (Q_ld 0 rfl rfl rfl rfl) rfl rfl rfl ?_
    refine L_q (Q_lenAt 1 rfl rfl) rfl rfl rfl ?_
    refine L_q (Q_leq rfl rfl) rfl rfl rfl ?_
    refine JL_nil ?_
    refine seqQ_normal ?_
    refine J_condD rfl (fun h => ?_) (fun h => ?_)
    · have hil : i ≤ K.length := by omega
      obtain ⟨A, e, B, rfl, hA⟩ := split_at (l := es) (i := i) (by omega)
      subst hA
      have hPl : A.length < (pL (A ++ e :: B)).length := by rw [pL_len]; simp
      have hPg := pL_get1' A B e hPl
      have hwe : wf 3 d e.2 := hwc e.2 (by simp)
      have hAm : (A.map (·.2)).length = A.length := List.length_map ..
      have hCm : (A.map (·.2) ++ e.2 :: B.map (·.2)).length = K.length + 1 := by simpa using hC
      have hem : (A ++ e :: B).map (·.2) = A.map (·.2) ++ e.2 :: B.map (·.2) := by simp
      rw [hem] at hal hup hr
      rw [hem]
      generalize hfc : A.map (·.2) = CA at *
      rcases Nat.lt_or_ge A.length K.length with hlt | hge
      · have hrm := rest_mid (K := K) (A := CA) (B := B.map (·.2)) (c := e.2) (by omega) hCm
        simp only [hAm] at hrm
        rw [hrm] at hal hup
        simp only [List.length_append, List.length_cons] at hal
        obtain ⟨u1, u2⟩ := up_app hup
        obtain ⟨_, _, _, u3⟩ := up_mid (X := []) u2
        have hkf : kl K[A.length].key f = false := pos_ge hku hlt hi0
        have hsp : flF f (restF d K (CA ++ e.2 :: B.map (·.2)) A.length) = flF f (flat d e.2) ++ K[A.length] :: flF f (restF d K (CA ++ e.2 :: B.map (·.2)) (A.length + 1)) := by
          rw [hrm, flF_app, flF_cons hkf]
        have hv := ih e.1 3 e.2 acc S1 hwe u1 (by omega)
        have hrl := runR_len to many (flF f (flat d e.2)) acc
        have hfl : (flF f (flat d e.2)).length ≤ (flat d e.2).length := List.length_filter_le _ _
        cases hb : (runR to many acc (flF f (flat d e.2))).2 with
        | false =>
          rw [hb] at hv
          rw [hsp, runR_f hb]
          refine J.ent ((Ent.re [3, 0, 2, 1, 4, 5, 6, 7, 8] rfl).trans ((Ent.mid_out (ndE d) A e B).trans (Ent.re [2, 3, 0, 1, 4, 5, 6, 7, 8, 9] rfl))) ?_
          refine J_skip ?_
          refine seqQ_normal ?_
          refine J_seq ?_
          refine J_block ?_
          refine J_seq ?_
          refine J_seq ?_
          refine J_region ?_
          refine L_q (Q_move rfl) rfl rfl rfl ?_
          refine L_o rfl rfl rfl (O_call [0,1] [2,3,4,5,6,7,8,9] hlf rfl rfl ?_)
          rintro _ _ ⟨rfl, rfl⟩
          refine JL.norm ?_
          refine L_q ((Q_not rfl).as (v' := .bool true) rfl) rfl rfl rfl ?_
          refine L_q (Q_move rfl) rfl rfl rfl ?_
          refine L_q (Q_move rfl) rfl rfl rfl ?_
          refine L_q (Q_nilCheck rfl) rfl rfl rfl ?_
          refine L_q (Q_fa0 rfl) rfl rfl rfl ?_
          refine L_q (Q_ld 0 rfl rfl rfl rfl) rfl rfl rfl ?_
          refine L_q (Q_move rfl) rfl rfl rfl ?_
          refine L_q (Q_ixAt 1 A.length rfl rfl rfl rfl hPl rfl) rfl rfl rfl ?_
          refine L_q (Q_ldEAt 1 A.length 0 (v := .pointer (some ⟨e.1, 0, none⟩)) rfl rfl rfl rfl hPl (by decide) (by rw [hPg]; rfl)) rfl rfl rfl ?_
          refine L_q (Q_move rfl) rfl rfl rfl ?_
          refine L_q (Q_move rfl) rfl rfl rfl ?_
          refine L_o rfl rfl rfl (O_call [2,5,6,7,8] [0,1,3,4,9] hv rfl rfl ?_)
          rintro _ _ ⟨S2, rfl, rfl⟩
          refine JL.norm ?_
          refine L_q ((Q_not rfl).as (v' := .bool true) rfl) rfl rfl rfl ?_
          refine L_q (Q_pickT rfl rfl) rfl rfl rfl ?_
          refine JL_nil ?_
          refine seqQ_normal ?_
          refine J_condT rfl ?_
          refine J_seq ?_
          refine J_region ?_
          refine L_q (Q_assign rfl) rfl rfl rfl ?_
          refine JL_nil ?_
          refine seqQ_normal ?_
          refine J_ret ?_
          refine seqQ_ret ?_
          refine blockQ_ret ?_
          refine seqQ_ret ?_
          refine loopQ_ret ?_
          refine blockQ_ret ?_
          refine seqQ_ret ?_
          refine retQ_ret _ [nodeA (d + 1) p (K, CA ++ e.2 :: B.map (·.2)), cel bt [str to] 9, cel bo [S2.v] 27, cel bm [.int .i64 many] 3, slc tKv true S2 (runR to many acc (flF f (flat d e.2))).1] (.cons (RV_tmp rfl) .nil) ⟨S2, rfl, rfl⟩ ?_
          exact (Ent.re [0, 7, 5, 6, 8, 1, 2, 3, 4, 9] rfl).trans ((Ent.mid_in (ndE d) A e B).trans ((Ent.re [1, 3, 2, 0, 4, 5, 6, 7, 8] rfl).trans (Ent.innerA (es := A ++ e :: B) hem)))
        | true =>
          rw [hb] at hv
          generalize hg : (runR to many acc (flF f (flat d e.2))).1 = acc1 at *
          have hsl := rngStep_len to many acc1 K[A.length]
          have hrr : runR to many acc (flF f (restF d K (CA ++ e.2 :: B.map (·.2)) A.length)) = runR to many acc1 (K[A.length] :: flF f (restF d K (CA ++ e.2 :: B.map (·.2)) (A.length + 1))) := by
            rw [hsp, runR_t hb, hg]
          refine J.ent ((Ent.re [3, 0, 2, 1, 4, 5, 6, 7, 8] rfl).trans ((Ent.mid_out (ndE d) A e B).trans (Ent.re [2, 3, 0, 1, 4, 5, 6, 7, 8, 9] rfl))) ?_
          refine J_skip ?_
          refine seqQ_normal ?_
          refine J_seq ?_
          refine J_block ?_
          refine J_seq ?_
          refine J_seq ?_
          refine J_region ?_
          refine L_q (Q_move rfl) rfl rfl rfl ?_
          refine L_o rfl rfl rfl (O_call [0,1] [2,3,4,5,6,7,8,9] hlf rfl rfl ?_)
          rintro _ _ ⟨rfl, rfl⟩
          refine JL.norm ?_
          refine L_q ((Q_not rfl).as (v' := .bool true) rfl) rfl rfl rfl ?_
          refine L_q (Q_move rfl) rfl rfl rfl ?_
          refine L_q (Q_move rfl) rfl rfl rfl ?_
          refine L_q (Q_nilCheck rfl) rfl rfl rfl ?_
          refine L_q (Q_fa0 rfl) rfl rfl rfl ?_
          refine L_q (Q_ld 0 rfl rfl rfl rfl) rfl rfl rfl ?_
          refine L_q (Q_move rfl) rfl rfl rfl ?_
          refine L_q (Q_ixAt 1 A.length rfl rfl rfl rfl hPl rfl) rfl rfl rfl ?_
          refine L_q (Q_ldEAt 1 A.length 0 (v := .pointer (some ⟨e.1, 0, none⟩)) rfl rfl rfl rfl hPl (by decide) (by rw [hPg]; rfl)) rfl rfl rfl ?_
          refine L_q (Q_move rfl) rfl rfl rfl ?_
          refine L_q (Q_move rfl) rfl rfl rfl ?_
          refine L_o rfl rfl rfl (O_call [2,5,6,7,8] [0,1,3,4,9] hv rfl rfl ?_)
          rintro _ _ ⟨S2, rfl, rfl⟩
          refine JL.norm ?_
          refine L_q ((Q_not rfl).as (v' := .bool false) rfl) rfl rfl rfl ?_
          refine L_q (Q_pickT rfl rfl) rfl rfl rfl ?_
          refine JL_nil ?_
          refine seqQ_normal ?_
          refine J_condF rfl ?_
          refine J_skip ?_
          refine seqQ_normal ?_
          refine J_seq ?_
          have he := each_ok E K[A.length] to many bt bo bm S2 acc1 (by omega)
          cases hb2 : (rngStep to many acc1 K[A.length]).2 with
          | true =>
            rw [hb2] at he
            refine J_region ?_
            refine L_q (Q_move rfl) rfl rfl rfl ?_
            refine L_q (Q_move rfl) rfl rfl rfl ?_
            refine L_q (Q_nilCheck rfl) rfl rfl rfl ?_
            refine L_q (Q_fa0 rfl) rfl rfl rfl ?_
            refine L_q (Q_ld 5 rfl rfl rfl rfl) rfl rfl rfl ?_
            refine L_q (Q_lenAt 8 rfl rfl) rfl rfl rfl ?_
            refine L_q ((Q_lss rfl rfl).as (v' := .bool true) (congrArg Value.bool (decide_eq_true (by omega)))) rfl rfl rfl ?_
            refine L_q (Q_move rfl) rfl rfl rfl ?_
            refine L_q (Q_move rfl) rfl rfl rfl ?_
            refine L_q (Q_move rfl) rfl rfl rfl ?_
            refine L_q (Q_nilCheck rfl) rfl rfl rfl ?_
            refine L_q (Q_fa0 rfl) rfl rfl rfl ?_
            refine L_q (Q_ld 5 rfl rfl rfl rfl) rfl rfl rfl ?_
            refine L_q (Q_move rfl) rfl rfl rfl ?_
            refine L_q (Q_ixAt 8 A.length rfl rfl rfl rfl hlt rfl) rfl rfl rfl ?_
            refine L_q (Q_ldEAAt 8 A.length 0 (vs := kvV K[A.length]) rfl rfl rfl rfl hlt (by decide) rfl) rfl rfl rfl ?_
            refine L_o rfl rfl rfl (O_dyn [1,2,3,4] [0,5,6,7,8,9] rfl rfl rfl he rfl ?_)
            rintro _ _ ⟨S3, rfl, rfl⟩
            refine JL.norm ?_
            refine L_q ((Q_not rfl).as (v' := .bool false) rfl) rfl rfl rfl ?_
            refine L_q (Q_pickT rfl rfl) rfl rfl rfl ?_
            refine JL_nil ?_
            refine seqQ_normal ?_
            refine J_condF rfl ?_
            refine J_skip ?_
            refine blockQ_normal ?_
            refine seqQ_normal ?_
            refine J_region ?_
            refine L_q (Q_move rfl) rfl rfl rfl ?_
            refine L_q (Q_add rfl rfl (by first | exact IntWalk.i64_in _ (by omega) | exact IntWalk.u8_in _ (by omega) | exact IntWalk.u32_in _ (by omega) | exact IntWalk.u64_in _ (by omega) | rfl)) rfl rfl rfl ?_
            refine L_q (Q_assign rfl) rfl rfl rfl ?_
            refine JL_nil ?_
            refine loopQ_normal (A.length + 1, (rngStep to many acc1 K[A.length]).1, S3) ⟨by show posK K f ≤ A.length + 1; omega, by show A.length + 1 ≤ _; omega, ?_, ?_, ?_⟩ (by show _ - (A.length + 1) < _ - A.length; omega) ⟨rfl, rfl, rfl, rfl, trivial⟩ ?_
            · show (rngStep to many acc1 K[A.length]).1.length + (restF d K (CA ++ e.2 :: B.map (·.2)) (A.length + 1)).length ≤ _
              omega
            · exact u3
            · show runR to many acc (flF f (restF d K (CA ++ e.2 :: B.map (·.2)) A.length)) = _
              rw [hrr]; exact runR_ct hb2
            · exact (Ent.re [4, 7, 5, 6, 8, 0, 1, 2, 3, 9] rfl).trans ((Ent.mid_in (ndE d) A e B).trans (Ent.re [1, 3, 2, 0, 4, 5, 6, 7, 8] rfl))
          | false =>
            rw [hb2] at he
            rw [hrr, runR_cf hb2]
            refine J_region ?_
            refine L_q (Q_move rfl) rfl rfl rfl ?_
            refine L_q (Q_move rfl) rfl rfl rfl ?_
            refine L_q (Q_nilCheck rfl) rfl rfl rfl ?_
            refine L_q (Q_fa0 rfl) rfl rfl rfl ?_
            refine L_q (Q_ld 5 rfl rfl rfl rfl) rfl rfl rfl ?_
            refine L_q (Q_lenAt 8 rfl rfl) rfl rfl rfl ?_
            refine L_q ((Q_lss rfl rfl).as (v' := .bool true) (congrArg Value.bool (decide_eq_true (by omega)))) rfl rfl rfl ?_
            refine L_q (Q_move rfl) rfl rfl rfl ?_
            refine L_q (Q_move rfl) rfl rfl rfl ?_
            refine L_q (Q_move rfl) rfl rfl rfl ?_
            refine L_q (Q_nilCheck rfl) rfl rfl rfl ?_
            refine L_q (Q_fa0 rfl) rfl rfl rfl ?_
            refine L_q (Q_ld 5 rfl rfl rfl rfl) rfl rfl rfl ?_
            refine L_q (Q_move rfl) rfl rfl rfl ?_
            refine L_q (Q_ixAt 8 A.length rfl rfl rfl rfl hlt rfl) rfl rfl rfl ?_
            refine L_q (Q_ldEAAt 8 A.length 0 (vs := kvV K[A.length]) rfl rfl rfl rfl hlt (by decide) rfl) rfl rfl rfl ?_
            refine L_o rfl rfl rfl (O_dyn [1,2,3,4] [0,5,6,7,8,9] rfl rfl rfl he rfl ?_)
            rintro _ _ ⟨S3, rfl, rfl⟩
            refine JL.norm ?_
            refine L_q ((Q_not rfl).as (v' := .bool true) rfl) rfl rfl rfl ?_
            refine L_q (Q_pickT rfl rfl) rfl rfl rfl ?_
            refine JL_nil ?_
            refine seqQ_normal ?_
            refine J_condT rfl ?_
            refine J_seq ?_
            refine J_region ?_
            refine L_q (Q_assign rfl) rfl rfl rfl ?_
            refine JL_nil ?_
            refine seqQ_normal ?_
            refine J_ret ?_
            refine blockQ_ret ?_
            refine seqQ_ret ?_
            refine loopQ_ret ?_
            refine blockQ_ret ?_
            refine seqQ_ret ?_
            refine retQ_ret _ [nodeA (d + 1) p (K, CA ++ e.2 :: B.map (·.2)), cel bt [str to] 9, cel bo [S3.v] 27, cel bm [.int .i64 many] 3, slc tKv true S3 (rngStep to many acc1 K[A.length]).1] (.cons (RV_tmp rfl) .nil) ⟨S3, rfl, rfl⟩ ?_
            exact (Ent.re [4, 7, 5, 6, 8, 0, 1, 2, 3, 9] rfl).trans ((Ent.mid_in (ndE d) A e B).trans ((Ent.re [1, 3, 2, 0, 4, 5, 6, 7, 8] rfl).trans (Ent.innerA (es := A ++ e :: B) hem)))
      · have hB : B = [] := List.eq_nil_of_length_eq_zero (by simp at hCm; omega)
        subst hB
        obtain ⟨l1, l2⟩ := rest_last (d := d) (K := K) (A := CA) (c := e.2) (by omega)
        rw [hAm] at l1 l2
        simp only [List.map_nil] at hal hup hr hem ⊢
        rw [l1] at hal hup
        have hv := ih e.1 3 e.2 acc S1 hwe hup hal
        have hrl := runR_len to many (flF f (flat d e.2)) acc
        have hfl : (flF f (flat d e.2)).length ≤ (flat d e.2).length := List.length_filter_le _ _
        rw [l1]
        cases hb : (runR to many acc (flF f (flat d e.2))).2 with
        | false =>
          rw [hb] at hv
          refine J.ent ((Ent.re [3, 0, 2, 1, 4, 5, 6, 7, 8] rfl).trans ((Ent.mid_out (ndE d) A e []).trans (Ent.re [2, 3, 0, 1, 4, 5, 6, 7, 8, 9] rfl))) ?_
          refine J_skip ?_
          refine seqQ_normal ?_
          refine J_seq ?_
          refine J_block ?_
          refine J_seq ?_
          refine J_seq ?_
          refine J_region ?_
          refine L_q (Q_move rfl) rfl rfl rfl ?_
          refine L_o rfl rfl rfl (O_call [0,1] [2,3,4,5,6,7,8,9] hlf rfl rfl ?_)
          rintro _ _ ⟨rfl, rfl⟩
          refine JL.norm ?_
          refine L_q ((Q_not rfl).as (v' := .bool true) rfl) rfl rfl rfl ?_
          refine L_q (Q_move rfl) rfl rfl rfl ?_
          refine L_q (Q_move rfl) rfl rfl rfl ?_
          refine L_q (Q_nilCheck rfl) rfl rfl rfl ?_
          refine L_q (Q_fa0 rfl) rfl rfl rfl ?_
          refine L_q (Q_ld 0 rfl rfl rfl rfl) rfl rfl rfl ?_
          refine L_q (Q_move rfl) rfl rfl rfl ?_
          refine L_q (Q_ixAt 1 A.length rfl rfl rfl rfl hPl rfl) rfl rfl rfl ?_
          refine L_q (Q_ldEAt 1 A.length 0 (v := .pointer (some ⟨e.1, 0, none⟩)) rfl rfl rfl rfl hPl (by decide) (by rw [hPg]; rfl)) rfl rfl rfl ?_
          refine L_q (Q_move rfl) rfl rfl rfl ?_
          refine L_q (Q_move rfl) rfl rfl rfl ?_
          refine L_o rfl rfl rfl (O_call [2,5,6,7,8] [0,1,3,4,9] hv rfl rfl ?_)
          rintro _ _ ⟨S2, rfl, rfl⟩
          refine JL.norm ?_
          refine L_q ((Q_not rfl).as (v' := .bool true) rfl) rfl rfl rfl ?_
          refine L_q (Q_pickT rfl rfl) rfl rfl rfl ?_
          refine JL_nil ?_
          refine seqQ_normal ?_
          refine J_condT rfl ?_
          refine J_seq ?_
          refine J_region ?_
          refine L_q (Q_assign rfl) rfl rfl rfl ?_
          refine JL_nil ?_
          refine seqQ_normal ?_
          refine J_ret ?_
          refine seqQ_ret ?_
          refine blockQ_ret ?_
          refine seqQ_ret ?_
          refine loopQ_ret ?_
          refine blockQ_ret ?_
          refine seqQ_ret ?_
          refine retQ_ret _ [nodeA (d + 1) p (K, CA ++ e.2 :: []), cel bt [str to] 9, cel bo [S2.v] 27, cel bm [.int .i64 many] 3, slc tKv true S2 (runR to many acc (flF f (flat d e.2))).1] (.cons (RV_tmp rfl) .nil) ⟨S2, rfl, rfl⟩ ?_
          exact (Ent.re [0, 7, 5, 6, 8, 1, 2, 3, 4, 9] rfl).trans ((Ent.mid_in (ndE d) A e []).trans ((Ent.re [1, 3, 2, 0, 4, 5, 6, 7, 8] rfl).trans (Ent.innerA (es := A ++ e :: []) hem)))
        | true =>
          rw [hb] at hv
          refine J.ent ((Ent.re [3, 0, 2, 1, 4, 5, 6, 7, 8] rfl).trans ((Ent.mid_out (ndE d) A e []).trans (Ent.re [2, 3, 0, 1, 4, 5, 6, 7, 8, 9] rfl))) ?_
          refine J_skip ?_
          refine seqQ_normal ?_
          refine J_seq ?_
          refine J_block ?_
          refine J_seq ?_
          refine J_seq ?_
          refine J_region ?_
          refine L_q (Q_move rfl) rfl rfl rfl ?_
          refine L_o rfl rfl rfl (O_call [0,1] [2,3,4,5,6,7,8,9] hlf rfl rfl ?_)
          rintro _ _ ⟨rfl, rfl⟩
          refine JL.norm ?_
          refine L_q ((Q_not rfl).as (v' := .bool true) rfl) rfl rfl rfl ?_
          refine L_q (Q_move rfl) rfl rfl rfl ?_
          refine L_q (Q_move rfl) rfl rfl rfl ?_
          refine L_q (Q_nilCheck rfl) rfl rfl rfl ?_
          refine L_q (Q_fa0 rfl) rfl rfl rfl ?_
          refine L_q (Q_ld 0 rfl rfl rfl rfl) rfl rfl rfl ?_
          refine L_q (Q_move rfl) rfl rfl rfl ?_
          refine L_q (Q_ixAt 1 A.length rfl rfl rfl rfl hPl rfl) rfl rfl rfl ?_
          refine L_q (Q_ldEAt 1 A.length 0 (v := .pointer (some ⟨e.1, 0, none⟩)) rfl rfl rfl rfl hPl (by decide) (by rw [hPg]; rfl)) rfl rfl rfl ?_
          refine L_q (Q_move rfl) rfl rfl rfl ?_
          refine L_q (Q_move rfl) rfl rfl rfl ?_
          refine L_o rfl rfl rfl (O_call [2,5,6,7,8] [0,1,3,4,9] hv rfl rfl ?_)
          rintro _ _ ⟨S2, rfl, rfl⟩
          refine JL.norm ?_
          refine L_q ((Q_not rfl).as (v' := .bool false) rfl) rfl rfl rfl ?_
          refine L_q (Q_pickT rfl rfl) rfl rfl rfl ?_
          refine JL_nil ?_
          refine seqQ_normal ?_
          refine J_condF rfl ?_
          refine J_skip ?_
          refine seqQ_normal ?_
          refine J_seq ?_
          refine J_region ?_
          refine L_q (Q_move rfl) rfl rfl rfl ?_
          refine L_q (Q_move rfl) rfl rfl rfl ?_
          refine L_q (Q_nilCheck rfl) rfl rfl rfl ?_
          refine L_q (Q_fa0 rfl) rfl rfl rfl ?_
          refine L_q (Q_ld 5 rfl rfl rfl rfl) rfl rfl rfl ?_
          refine L_q (Q_lenAt 8 rfl rfl) rfl rfl rfl ?_
          refine L_q ((Q_lss rfl rfl).as (v' := .bool false) (congrArg Value.bool (decide_eq_false (by omega)))) rfl rfl rfl ?_
          refine L_q (Q_move rfl) rfl rfl rfl ?_
          refine L_n rfl rfl rfl ?_
          refine L_n rfl rfl rfl ?_
          refine L_n rfl rfl rfl ?_
          refine L_n rfl rfl rfl ?_
          refine L_n rfl rfl rfl ?_
          refine L_n rfl rfl rfl ?_
          refine L_n rfl rfl rfl ?_
          refine L_n rfl rfl rfl ?_
          refine L_n rfl rfl rfl ?_
          refine L_n rfl rfl rfl ?_
          refine L_q (Q_pickF rfl rfl) rfl rfl rfl ?_
          refine JL_nil ?_
          refine seqQ_normal ?_
          refine J_condF rfl ?_
          refine J_skip ?_
          refine blockQ_normal ?_
          refine seqQ_normal ?_
          refine J_region ?_
          refine L_q (Q_move rfl) rfl rfl rfl ?_
          refine L_q (Q_add rfl rfl (by first | exact IntWalk.i64_in _ (by omega) | exact IntWalk.u8_in _ (by omega) | exact IntWalk.u32_in _ (by omega) | exact IntWalk.u64_in _ (by omega) | rfl)) rfl rfl rfl ?_
          refine L_q (Q_assign rfl) rfl rfl rfl ?_
          refine JL_nil ?_
          refine loopQ_normal (A.length + 1, (runR to many acc (flF f (flat d e.2))).1, S2) ⟨by show posK K f ≤ A.length + 1; omega, by show A.length + 1 ≤ _; omega, ?_, ?_, ?_⟩ (by show _ - (A.length + 1) < _ - A.length; omega) ⟨rfl, rfl, rfl, rfl, trivial⟩ ?_
          · show (runR to many acc (flF f (flat d e.2))).1.length + (restF d K (CA ++ [e.2]) (A.length + 1)).length ≤ _
            rw [l2]; simp only [List.length_nil]; omega
          · show Up (restF d K (CA ++ [e.2]) (A.length + 1))
            rw [l2]; exact List.Pairwise.nil
          · show runR to many acc (flF f (flat d e.2)) = runR to many (runR to many acc (flF f (flat d e.2))).1 (flF f (restF d K (CA ++ [e.2]) (A.length + 1)))
            rw [l2]
            exact Prod.ext rfl hb
          · exact (Ent.re [0, 7, 5, 6, 8, 1, 2, 3, 4, 9] rfl).trans ((Ent.mid_in (ndE d) A e []).trans (Ent.re [1, 3, 2, 0, 4, 5, 6, 7, 8] rfl))
    · have hie : i = K.length + 1 := by omega
      have hrn : restF d K (es.map (·.2)) i = [] := by
        unfold restF
        have x1 : K.drop i = [] := List.drop_eq_nil_of_le (by omega)
        have x2 : (es.map (·.2)).drop i = [] := List.drop_eq_nil_of_le (by simp; omega)
        rw [x1, x2]
        rfl
      rw [hrn]
      refine J_exit ?_
      refine seqQ_exit ?_
      refine loopQ_exit ?_
      refine blockQ_hit ?_
      refine seqQ_normal ?_
      refine J_seq ?_
      refine J_region ?_
      refine L_q (Q_assign rfl) rfl rfl rfl ?_
      refine JL_nil ?_
      refine seqQ_normal ?_
      refine J_ret ?_
      exact retQ_ret _ [nodeA (d + 1) p (K, es.map (·.2)), cel bt [str to] 9, cel bo [S1.v] 27, cel bm [.int .i64 many] 3, slc tKv true S1 acc] (.cons (RV_tmp rfl) .nil) ⟨S1, rfl, rfl⟩ (Ent.innerA rfl)
theorem trange_ok (E : World) (p : Nat) (l : List Kv) (f to : Ky) (many : Int) (hl : l.length ≤ 1000000) : Does Try.prog E 16 [.pointer (some ⟨p, 0, none⟩), str f, str to, .int .i64 many] [treeA p l] fun v L => ∃ S : SV, v = S.v ∧ L = [treeA p l, slc tKv true S (rngL l f to many)] := by
  refine Does.of Try.func16 rfl Try.ntmps16 rfl rfl fun F => ?_
  refine J.norm ?_
  refine J_seq ?_
  refine J_region ?_
  refine L_o rfl rfl rfl (O_box rfl fun b6 => ?_)
  refine L_o rfl rfl rfl (O_box rfl fun b7 => ?_)
  refine L_q (Q_assign rfl) rfl rfl rfl ?_
  refine JL_nil ?_
  refine seqQ_normal ?_
  refine J_seq ?_
  refine J_seq ?_
  by_cases h1 : many < 1
  · skip
    refine J_region ?_
    refine L_q (Q_move rfl) rfl rfl rfl ?_
    refine L_q ((Q_peql rfl rfl).as (v' := .bool false) rfl) rfl rfl rfl ?_
    refine L_q (Q_move rfl) rfl rfl rfl ?_
    refine L_q (Q_ld 0 rfl rfl rfl rfl) rfl rfl rfl ?_
    refine L_q ((Q_lss rfl rfl).as (v' := .bool true) (congrArg Value.bool (decide_eq_true h1))) rfl rfl rfl ?_
    refine L_q (Q_pickF rfl rfl) rfl rfl rfl ?_
    refine JL_nil ?_
    refine seqQ_normal ?_
    refine J_condT rfl ?_
    refine J_seq ?_
    refine J_region ?_
    refine L_q (Q_assign rfl) rfl rfl rfl ?_
    refine JL_nil ?_
    refine seqQ_normal ?_
    refine J_ret ?_
    refine seqQ_ret ?_
    refine retQ_ret _ [treeA p l, slc tKv true SV.nil (rngL l f to many)] (.cons (RV_tmp rfl) .nil) ⟨SV.nil, rfl, rfl⟩ ?_
    rw [rngL, if_pos h1]
    exact (Ent.mk fun _ _ h => (h.lay_nil tKv true : Sat _ _ (slc tKv true SV.nil [] :: _))).trans (Ent.re [3, 0, 4] rfl)
  · skip
    refine J_region ?_
    refine L_q (Q_move rfl) rfl rfl rfl ?_
    refine L_q ((Q_peql rfl rfl).as (v' := .bool false) rfl) rfl rfl rfl ?_
    refine L_q (Q_move rfl) rfl rfl rfl ?_
    refine L_q (Q_ld 0 rfl rfl rfl rfl) rfl rfl rfl ?_
    refine L_q ((Q_lss rfl rfl).as (v' := .bool false) (congrArg Value.bool (decide_eq_false h1))) rfl rfl rfl ?_
    refine L_q (Q_pickF rfl rfl) rfl rfl rfl ?_
    refine JL_nil ?_
    refine seqQ_normal ?_
    refine J_condF rfl ?_
    refine J_skip ?_
    refine seqQ_normal ?_
    refine J_seq ?_
    refine J.ent (Ent.re [2, 0, 1, 3] rfl) ?_
    refine J.tree fun r d t hu hw hf => ?_
    refine J_region ?_
    refine L_o rfl rfl rfl (O_alloc fun b9 => ?_)
    refine JL_nil ?_
    refine seqQ_normal ?_
    refine J_seq ?_
    refine J.ent (Ent.mk fun _ _ h => (h.lay_nil tKv true : Sat _ _ (slc tKv true SV.nil [] :: _))) ?_
    have hv := visit_ok E f to many b6 b9 b7 d r (min d 1) t [] SV.nil hw (by rw [hf]; exact hu) (by rw [hf]; simp; omega)
    rw [hf] at hv
    refine J_region ?_
    refine L_q (Q_move rfl) rfl rfl rfl ?_
    refine L_q (Q_nilCheck rfl) rfl rfl rfl ?_
    refine L_q (Q_fa0 rfl) rfl rfl rfl ?_
    refine L_q (Q_ld 3 rfl rfl rfl rfl) rfl rfl rfl ?_
    refine L_q (Q_move rfl) rfl rfl rfl ?_
    refine L_q (Q_makeFunc (xs := []) (ys := [.tmp 6, .tmp 9, .tmp 7]) (vs := []) (us := [.pointer (some ⟨b6, 0, none⟩), .pointer (some ⟨b9, 0, none⟩), .pointer (some ⟨b7, 0, none⟩)]) rfl rfl) rfl rfl rfl ?_
    refine L_o rfl rfl rfl (O_call [2,5,1,4,0] [3,6] hv rfl rfl ?_)
    rintro _ _ ⟨S2, rfl, rfl⟩
    refine JL.norm ?_
    refine JL_nil ?_
    refine seqQ_normal ?_
    refine J_seq ?_
    refine J_region ?_
    refine L_q (Q_ld 2 rfl rfl rfl rfl) rfl rfl rfl ?_
    refine L_q (Q_assign rfl) rfl rfl rfl ?_
    refine JL_nil ?_
    refine seqQ_normal ?_
    refine J_ret ?_
    refine retQ_ret _ [treeA p l, slc tKv true S2 (rngL l f to many)] (.cons (RV_tmp rfl) .nil) ⟨S2, rfl, rfl⟩ ?_
    rw [rngL, if_neg h1]
    exact (Ent.re [0, 5, 4, 6] rfl).trans ((Ent.mkX hw hf).trans ((Ent.re [1, 0, 2, 3] rfl).trans (Ent.tree hu)))
end Go.Proofs
