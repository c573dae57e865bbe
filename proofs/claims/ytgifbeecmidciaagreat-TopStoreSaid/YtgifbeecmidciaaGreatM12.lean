/- Part 12 of the texts below the row: Tree13, Tree14, Vot1, Vot2, Vot3. -/
import Derived.Test.YtgifbeecmidciaaGreatM11
/- The pairs gone over; a range. -/
set_option autoImplicit false
namespace Go.Proofs.Bt
open Go.SL
def rngL (l : List Kv) (f to : Ky) (many : Int) : List Kv := if many < 1 then [] else (runR to many [] (flF f l)).1
attribute [local irreducible] J JL QOp JOp seqQ blockQ loopQ retQ slc cel hex star pur stars Does RV Ent pAt scopeQ
attribute [local irreducible] nodeA nodeX treeA
theorem visit_ok (E : World) (f to : Ky) (many : Int) (bt bo bm : Nat) : ∀ (d p m : Nat) (t : T d) (acc : List Kv) (S : SV), wf m d t → Up (flat d t) → acc.length + (flat d t).length ≤ 2000000 →
 Does Tryz.prog E 73 [.pointer (some ⟨p, 0, none⟩), str f, eachV bt bo bm] [nodeA d p t, cel bt [str to] 9, cel bo [S.v] 54, cel bm [.int .i64 many] 3, slc tKv true S acc]
 fun v L => ∃ S' : SV, v = .bool (runR to many acc (flF f (flat d t))).2 ∧ L = [nodeA d p t, cel bt [str to] 9, cel bo [S'.v] 54, cel bm [.int .i64 many] 3, slc tKv true S' (runR to many acc (flF f (flat d t))).1] := by
 intro d
 induction d with
 | zero =>
  intro p m t acc0 S0 hw hu hle
  have h7 := (wf_ks hw).2
  have hku := ks_up hw hu
  have hpl := pos_le (tks 0 t) f
  refine Does.of Tryz.func73 rfl Tryz.ntmps73 rfl rfl fun F => ?_
  refine J.norm ?_
  refine J.leaf fun S R => ?_
  have hf := find_ok E p S R (tks 0 t) f (by omega) hku
  have efl : flF f (flat 0 t) = (tks 0 t).drop (posK (tks 0 t) f) := flF_drop hku
  have hle : acc0.length + (tks 0 t).length ≤ 2000000 := hle
  rw [efl]
  refine Sr ?_
  refine Lq (Q_assign rfl) ?_
  refine Ln ?_
  refine Sr ?_
  refine Lq (Q_move rfl) ?_
  refine Lq (Q_move rfl) ?_
  refine L_o rfl rfl rfl (O_call [0,1] [2,3,4,5,6,7] hf rfl rfl ?_)
  rintro _ _ ⟨rfl, rfl⟩
  refine JL.norm ?_
  refine Lq (Q_move rfl) ?_
  refine Lq (Q_extract (v := .int .i64 (posK (tks 0 t) f : Int)) rfl rfl) ?_
  refine Lq (Q_extract (v := .bool (hasL (tks 0 t) f)) rfl rfl) ?_
  refine Lq (Q_assign rfl) ?_
  refine Lq (Q_assign rfl) ?_
  refine Ln ?_
  refine J_seq ?_
  refine J_block ?_
  refine J_loop (fun i : Nat × List Kv × SV => i.1 ≤ (tks 0 t).length + 1 ∧ i.2.1.length + ((tks 0 t).drop i.1).length ≤ 2000000 ∧ runR to many acc0 ((tks 0 t).drop (posK (tks 0 t) f)) = runR to many i.2.1 ((tks 0 t).drop i.1)) (fun i => [(0, .pointer (some ⟨p, 0, none⟩)), (1, str f), (2, eachV bt bo bm), (7, .int .i64 (i.1 : Int))])
   (fun i => [ndC p S R, slc tKv true S (tks 0 t), slc tNd true R [], cel bt [str to] 9, cel bo [i.2.2.v] 54, cel bm [.int .i64 many] 3, slc tKv true i.2.2 i.2.1, F]) (fun i => (tks 0 t).length + 1 - i.1) (posK (tks 0 t) f, acc0, S0) ⟨by omega, by simp only [List.length_drop]; omega, rfl⟩ ⟨rfl, rfl, rfl, rfl, trivial⟩ (Ent.refl _) ?_
  rintro ⟨i, acc, S1⟩ ⟨hi, hal, hr⟩
  dsimp only at hi hal hr ⊢
  generalize posK (tks 0 t) f = p0 at *
  rw [hr]
  refine J_seq ?_
  refine Sr ?_
  refine Lq (Q_move rfl) ?_
  refine Lq (Q_move rfl) ?_
  refine Lq (Q_nilCheck rfl) ?_
  refine Lq (Q_fa0 rfl) ?_
  refine Lq (Q_ld 0 rfl rfl rfl rfl) ?_
  refine Lq (Q_lenAt 1 rfl rfl) ?_
  refine Lq (Q_leq rfl rfl) ?_
  refine Ln ?_
  refine J_condD rfl (fun h => ?_) (fun h => ?_)
  ·have hil : i ≤ (tks 0 t).length := by omega
   refine J_skip ?_
   refine seqQ_normal ?_
   refine J_seq ?_
   refine J_block ?_
   refine J_seq ?_
   refine Sr ?_
   refine Lq (Q_move rfl) ?_
   refine L_o rfl rfl rfl (O_call [0,2] [1,3,4,5,6,7] (leaf_ok E p S R []) rfl rfl ?_)
   rintro _ _ ⟨rfl, rfl⟩
   refine JL.norm ?_
   refine Lq ((Q_not rfl).as (v' := .bool false) rfl) ?_
   refine Lq (Q_move rfl) ?_
   refine L_n rfl rfl rfl ?_
   refine L_n rfl rfl rfl ?_
   refine L_n rfl rfl rfl ?_
   refine L_n rfl rfl rfl ?_
   refine L_n rfl rfl rfl ?_
   refine L_n rfl rfl rfl ?_
   refine L_n rfl rfl rfl ?_
   refine L_n rfl rfl rfl ?_
   refine L_n rfl rfl rfl ?_
   refine L_n rfl rfl rfl ?_
   refine L_n rfl rfl rfl ?_
   refine Lq (Q_pickF rfl rfl) ?_
   refine Ln ?_
   refine J_condF rfl ?_
   refine J_skip ?_
   refine seqQ_normal ?_
   refine J_seq ?_
   rcases Nat.lt_or_ge i (tks 0 t).length with hlt | hge
   ·have hd := List.drop_eq_getElem_cons hlt
    have hsl := rngStep_len to many acc (tks 0 t)[i]
    simp only [List.length_drop] at hal
    have he := each_ok E (tks 0 t)[i] to many bt bo bm S1 acc (by omega)
    cases hb : (rngStep to many acc (tks 0 t)[i]).2 with
    | true =>
     rw [hb] at he
     refine J_region ?_
     refine Lq (Q_move rfl) ?_
     refine Lq (Q_move rfl) ?_
     refine Lq (Q_nilCheck rfl) ?_
     refine Lq (Q_fa0 rfl) ?_
     refine Lq (Q_ld 0 rfl rfl rfl rfl) ?_
     refine Lq (Q_lenAt 2 rfl rfl) ?_
     refine Lq ((Q_lss rfl rfl).as (v' := .bool true) (congrArg Value.bool (decide_eq_true (by omega)))) ?_
     refine Lq (Q_move rfl) ?_
     refine Lq (Q_move rfl) ?_
     refine Lq (Q_move rfl) ?_
     refine Lq (Q_nilCheck rfl) ?_
     refine Lq (Q_fa0 rfl) ?_
     refine Lq (Q_ld 0 rfl rfl rfl rfl) ?_
     refine Lq (Q_move rfl) ?_
     refine Lq (Q_ixAt 2 i rfl rfl rfl rfl hlt rfl) ?_
     refine Lq (Q_ldEAAt 2 i 0 (vs := kvV (tks 0 t)[i]) rfl rfl rfl rfl hlt (by decide) rfl) ?_
     refine L_o rfl rfl rfl (O_dyn [3,4,5,6] [0,1,2,7] rfl rfl rfl he rfl ?_)
     rintro _ _ ⟨S2, rfl, rfl⟩
     refine JL.norm ?_
     refine Lq ((Q_not rfl).as (v' := .bool false) rfl) ?_
     refine Lq (Q_pickT rfl rfl) ?_
     refine Ln ?_
     refine J_condF rfl ?_
     refine J_skip ?_
     refine blockQ_normal ?_
     refine seqQ_normal ?_
     refine J_region ?_
     refine Lq (Q_move rfl) ?_
     refine Lq (Q_add rfl rfl (by first | exact IntWalk.i64_in _ (by omega) | exact IntWalk.u8_in _ (by omega) | exact IntWalk.u32_in _ (by omega) | exact IntWalk.u64_in _ (by omega) | rfl)) ?_
     refine Lq (Q_assign rfl) ?_
     refine JL_nil ?_
     refine loopQ_normal (i + 1, (rngStep to many acc (tks 0 t)[i]).1, S2) ⟨by omega, by simp only [List.length_drop]; omega, by rw [hd]; exact runR_ct hb⟩ (by show _ - (i + 1) < _ - i; omega) ⟨rfl, rfl, rfl, rfl, trivial⟩ (Ent.re [4,6,5,0,1,2,3,7] rfl)
    | false =>
     rw [hb] at he
     rw [hd, runR_cf hb]
     refine J_region ?_
     refine Lq (Q_move rfl) ?_
     refine Lq (Q_move rfl) ?_
     refine Lq (Q_nilCheck rfl) ?_
     refine Lq (Q_fa0 rfl) ?_
     refine Lq (Q_ld 0 rfl rfl rfl rfl) ?_
     refine Lq (Q_lenAt 2 rfl rfl) ?_
     refine Lq ((Q_lss rfl rfl).as (v' := .bool true) (congrArg Value.bool (decide_eq_true (by omega)))) ?_
     refine Lq (Q_move rfl) ?_
     refine Lq (Q_move rfl) ?_
     refine Lq (Q_move rfl) ?_
     refine Lq (Q_nilCheck rfl) ?_
     refine Lq (Q_fa0 rfl) ?_
     refine Lq (Q_ld 0 rfl rfl rfl rfl) ?_
     refine Lq (Q_move rfl) ?_
     refine Lq (Q_ixAt 2 i rfl rfl rfl rfl hlt rfl) ?_
     refine Lq (Q_ldEAAt 2 i 0 (vs := kvV (tks 0 t)[i]) rfl rfl rfl rfl hlt (by decide) rfl) ?_
     refine L_o rfl rfl rfl (O_dyn [3,4,5,6] [0,1,2,7] rfl rfl rfl he rfl ?_)
     rintro _ _ ⟨S2, rfl, rfl⟩
     refine JL.norm ?_
     refine Lq ((Q_not rfl).as (v' := .bool true) rfl) ?_
     refine Lq (Q_pickT rfl rfl) ?_
     refine Ln ?_
     refine J_condT rfl ?_
     refine Sr ?_
     refine Lq (Q_assign rfl) ?_
     refine Ln ?_
     refine J_ret ?_
     refine blockQ_ret ?_
     refine seqQ_ret ?_
     refine loopQ_ret ?_
     refine blockQ_ret ?_
     refine seqQ_ret ?_
     refine retQ_ret _ [nodeA 0 p t, cel bt [str to] 9, cel bo [S2.v] 54, cel bm [.int .i64 many] 3, slc tKv true S2 (rngStep to many acc (tks 0 t)[i]).1] (.cons (RV_tmp rfl) .nil) ⟨S2, rfl, rfl⟩ ?_
     exact (Ent.re [4,6,5,0,1,2,3,7] rfl).trans Ent.leafA
   ·have hd : (tks 0 t).drop i = [] := List.drop_eq_nil_of_le hge
    have hd2 : (tks 0 t).drop (i + 1) = [] := List.drop_eq_nil_of_le (by omega)
    simp only [List.length_drop] at hal
    refine J_region ?_
    refine Lq (Q_move rfl) ?_
    refine Lq (Q_move rfl) ?_
    refine Lq (Q_nilCheck rfl) ?_
    refine Lq (Q_fa0 rfl) ?_
    refine Lq (Q_ld 0 rfl rfl rfl rfl) ?_
    refine Lq (Q_lenAt 2 rfl rfl) ?_
    refine Lq ((Q_lss rfl rfl).as (v' := .bool false) (congrArg Value.bool (decide_eq_false (by omega)))) ?_
    refine Lq (Q_move rfl) ?_
    refine L_n rfl rfl rfl ?_
    refine L_n rfl rfl rfl ?_
    refine L_n rfl rfl rfl ?_
    refine L_n rfl rfl rfl ?_
    refine L_n rfl rfl rfl ?_
    refine L_n rfl rfl rfl ?_
    refine L_n rfl rfl rfl ?_
    refine L_n rfl rfl rfl ?_
    refine L_n rfl rfl rfl ?_
    refine L_n rfl rfl rfl ?_
    refine Lq (Q_pickF rfl rfl) ?_
    refine Ln ?_
    refine J_condF rfl ?_
    refine J_skip ?_
    refine blockQ_normal ?_
    refine seqQ_normal ?_
    refine J_region ?_
    refine Lq (Q_move rfl) ?_
    refine Lq (Q_add rfl rfl (by first | exact IntWalk.i64_in _ (by omega) | exact IntWalk.u8_in _ (by omega) | exact IntWalk.u32_in _ (by omega) | exact IntWalk.u64_in _ (by omega) | rfl)) ?_
    refine Lq (Q_assign rfl) ?_
    refine JL_nil ?_
    exact loopQ_normal (i + 1, acc, S1) ⟨by omega, by simp only [List.length_drop]; omega, by rw [hd]; show _ = runR to many acc ((tks 0 t).drop (i + 1)); rw [hd2]⟩ (by show _ - (i + 1) < _ - i; omega) ⟨rfl, rfl, rfl, rfl, trivial⟩ (Ent.re [0,2,1,3,4,5,6,7] rfl)
  ·have hd : (tks 0 t).drop i = [] := List.drop_eq_nil_of_le (by omega)
   rw [hd]
   refine J_exit ?_
   refine seqQ_exit ?_
   refine loopQ_exit ?_
   refine blockQ_hit ?_
   refine seqQ_normal ?_
   refine Sr ?_
   refine Lq (Q_assign rfl) ?_
   refine Ln ?_
   refine J_ret ?_
   exact retQ_ret _ [nodeA 0 p t, cel bt [str to] 9, cel bo [S1.v] 54, cel bm [.int .i64 many] 3, slc tKv true S1 acc] (.cons (RV_tmp rfl) .nil) ⟨S1, rfl, rfl⟩ Ent.leafA
 | succ d ih =>
  intro p m t acc0 S0 hw hu hle
  obtain ⟨K, C⟩ := t
  have hku : Up K := ks_up hw hu
  obtain ⟨_, h7, hC, hwc⟩ := hw
  dsimp only at h7 hC hwc
  have hpl := pos_le K f
  obtain ⟨q1, q2, q3⟩ := rest_pos (f := f) hC hu hku
  refine Does.of Tryz.func73 rfl Tryz.ntmps73 rfl rfl fun F => ?_
  refine J.norm ?_
  refine J.inner fun S R es hes => ?_
  dsimp only at hes ⊢
  subst hes
  rw [List.length_map] at hC
  have hf := find_ok E p S R K f (by omega) hku
  have hlf := leaf_ok E p S R (pL es)
  rw [show decide (((pL es).length : Int) = 0) = false from decide_eq_false (by rw [pL_len]; omega)] at hlf
  rw [q1]
  refine Sr ?_
  refine Lq (Q_assign rfl) ?_
  refine Ln ?_
  refine Sr ?_
  refine Lq (Q_move rfl) ?_
  refine Lq (Q_move rfl) ?_
  refine L_o rfl rfl rfl (O_call [0,1] [2,3,4,5,6,7,8] hf rfl rfl ?_)
  rintro _ _ ⟨rfl, rfl⟩
  refine JL.norm ?_
  refine Lq (Q_move rfl) ?_
  refine Lq (Q_extract (v := .int .i64 (posK K f : Int)) rfl rfl) ?_
  refine Lq (Q_extract (v := .bool (hasL K f)) rfl rfl) ?_
  refine Lq (Q_assign rfl) ?_
  refine Lq (Q_assign rfl) ?_
  refine Ln ?_
  refine J_seq ?_
  refine J_block ?_
  refine J_loop (fun i : Nat × List Kv × SV => posK K f ≤ i.1 ∧ i.1 ≤ K.length + 1 ∧ i.2.1.length + (restF d K (es.map (·.2)) i.1).length ≤ 2000000 ∧ Up (restF d K (es.map (·.2)) i.1) ∧ runR to many acc0 (flF f (restF d K (es.map (·.2)) (posK K f))) = runR to many i.2.1 (flF f (restF d K (es.map (·.2)) i.1))) (fun i => [(0, .pointer (some ⟨p, 0, none⟩)), (1, str f), (2, eachV bt bo bm), (7, .int .i64 (i.1 : Int))])
   (fun i => [ndC p S R, slc tKv true S K, slc tNd true R (pL es), stars (es.map (ndE d)), cel bt [str to] 9, cel bo [i.2.2.v] 54, cel bm [.int .i64 many] 3, slc tKv true i.2.2 i.2.1, F]) (fun i => K.length + 1 - i.1) (posK K f, acc0, S0) ⟨Nat.le_refl _, by show posK K f ≤ _; omega, by show acc0.length + (restF d K (es.map (·.2)) (posK K f)).length ≤ _; omega, q2, rfl⟩ ⟨rfl, rfl, rfl, rfl, trivial⟩ (Ent.refl _) ?_
  rintro ⟨i, acc, S1⟩ ⟨hi0, hi, hal, hup, hr⟩
  dsimp only at hi0 hi hal hup hr ⊢
  rw [hr]
  refine J_seq ?_
  refine Sr ?_
  refine Lq (Q_move rfl) ?_
  refine Lq (Q_move rfl) ?_
  refine Lq (Q_nilCheck rfl) ?_
  refine Lq (Q_fa0 rfl) ?_
  refine Lq (Q_ld 0 rfl rfl rfl rfl) ?_
  refine Lq (Q_lenAt 1 rfl rfl) ?_
  refine Lq (Q_leq rfl rfl) ?_
  refine Ln ?_
  refine J_condD rfl (fun h => ?_) (fun h => ?_)
  ·have hil : i ≤ K.length := by omega
   obtain ⟨A, e, B, rfl, hA⟩ := split_at (l := es) (i := i) (by omega)
   subst hA
   have hPl : A.length < (pL (A ++ e :: B)).length := by rw [pL_len]; simp
   have hPg := pL_get1' A B e hPl
   have hwe : wf 3 d e.2 := hwc e.2 (by simp)
   have hAm : (A.map (·.2)).length = A.length := List.length_map ..
   have hCm : (A.map (·.2) ++ e.2 :: B.map (·.2)).length = K.length + 1 := by simpa using hC
   have hem : (A ++ e :: B).map (·.2) = A.map (·.2) ++ e.2 :: B.map (·.2) := by simp
   rw [hem] at hal hup hr
   rw [hem]
   generalize hfc : A.map (·.2) = CA at *
   rcases Nat.lt_or_ge A.length K.length with hlt | hge
   ·have hrm := rest_mid (K := K) (A := CA) (B := B.map (·.2)) (c := e.2) (by omega) hCm
    simp only [hAm] at hrm
    rw [hrm] at hal hup
    simp only [List.length_append, List.length_cons] at hal
    obtain ⟨u1, u2⟩ := up_app hup
    obtain ⟨_, _, _, u3⟩ := up_mid (X := []) u2
    have hkf : kl K[A.length].key f = false := pos_ge hku hlt hi0
    have hsp : flF f (restF d K (CA ++ e.2 :: B.map (·.2)) A.length) = flF f (flat d e.2) ++ K[A.length] :: flF f (restF d K (CA ++ e.2 :: B.map (·.2)) (A.length + 1)) := by
     rw [hrm, flF_app, flF_cons hkf]
    have hv := ih e.1 3 e.2 acc S1 hwe u1 (by omega)
    have hrl := runR_len to many (flF f (flat d e.2)) acc
    have hfl : (flF f (flat d e.2)).length ≤ (flat d e.2).length := List.length_filter_le _ _
    cases hb : (runR to many acc (flF f (flat d e.2))).2 with
    | false =>
     rw [hb] at hv
     rw [hsp, runR_f hb]
     refine J.ent ((Ent.re [3,0,2,1,4,5,6,7,8] rfl).trans ((Ent.mid_out (ndE d) A e B).trans (Ent.re [2,3,0,1,4,5,6,7,8,9] rfl))) ?_
     refine J_skip ?_
     refine seqQ_normal ?_
     refine J_seq ?_
     refine J_block ?_
     refine J_seq ?_
     refine Sr ?_
     refine Lq (Q_move rfl) ?_
     refine L_o rfl rfl rfl (O_call [0,1] [2,3,4,5,6,7,8,9] hlf rfl rfl ?_)
     rintro _ _ ⟨rfl, rfl⟩
     refine JL.norm ?_
     refine Lq ((Q_not rfl).as (v' := .bool true) rfl) ?_
     refine Lq (Q_move rfl) ?_
     refine Lq (Q_move rfl) ?_
     refine Lq (Q_nilCheck rfl) ?_
     refine Lq (Q_fa0 rfl) ?_
     refine Lq (Q_ld 0 rfl rfl rfl rfl) ?_
     refine Lq (Q_move rfl) ?_
     refine Lq (Q_ixAt 1 A.length rfl rfl rfl rfl hPl rfl) ?_
     refine Lq (Q_ldEAt 1 A.length 0 (v := .pointer (some ⟨e.1, 0, none⟩)) rfl rfl rfl rfl hPl (by decide) (by rw [hPg]; rfl)) ?_
     refine Lq (Q_move rfl) ?_
     refine Lq (Q_move rfl) ?_
     refine L_o rfl rfl rfl (O_call [2,5,6,7,8] [0,1,3,4,9] hv rfl rfl ?_)
     rintro _ _ ⟨S2, rfl, rfl⟩
     refine JL.norm ?_
     refine Lq ((Q_not rfl).as (v' := .bool true) rfl) ?_
     refine Lq (Q_pickT rfl rfl) ?_
     refine Ln ?_
     refine J_condT rfl ?_
     refine Sr ?_
     refine Lq (Q_assign rfl) ?_
     refine Ln ?_
     refine J_ret ?_
     refine seqQ_ret ?_
     refine blockQ_ret ?_
     refine seqQ_ret ?_
     refine loopQ_ret ?_
     refine blockQ_ret ?_
     refine seqQ_ret ?_
     refine retQ_ret _ [nodeA (d + 1) p (K, CA ++ e.2 :: B.map (·.2)), cel bt [str to] 9, cel bo [S2.v] 54, cel bm [.int .i64 many] 3, slc tKv true S2 (runR to many acc (flF f (flat d e.2))).1] (.cons (RV_tmp rfl) .nil) ⟨S2, rfl, rfl⟩ ?_
     exact (Ent.re [0,7,5,6,8,1,2,3,4,9] rfl).trans ((Ent.mid_in (ndE d) A e B).trans ((Ent.re [1,3,2,0,4,5,6,7,8] rfl).trans (Ent.innerA (es := A ++ e :: B) hem)))
    | true =>
     rw [hb] at hv
     generalize hg : (runR to many acc (flF f (flat d e.2))).1 = acc1 at *
     have hsl := rngStep_len to many acc1 K[A.length]
     have hrr : runR to many acc (flF f (restF d K (CA ++ e.2 :: B.map (·.2)) A.length)) = runR to many acc1 (K[A.length] :: flF f (restF d K (CA ++ e.2 :: B.map (·.2)) (A.length + 1))) := by
      rw [hsp, runR_t hb, hg]
     refine J.ent ((Ent.re [3,0,2,1,4,5,6,7,8] rfl).trans ((Ent.mid_out (ndE d) A e B).trans (Ent.re [2,3,0,1,4,5,6,7,8,9] rfl))) ?_
     refine J_skip ?_
     refine seqQ_normal ?_
     refine J_seq ?_
     refine J_block ?_
     refine J_seq ?_
     refine Sr ?_
     refine Lq (Q_move rfl) ?_
     refine L_o rfl rfl rfl (O_call [0,1] [2,3,4,5,6,7,8,9] hlf rfl rfl ?_)
     rintro _ _ ⟨rfl, rfl⟩
     refine JL.norm ?_
     refine Lq ((Q_not rfl).as (v' := .bool true) rfl) ?_
     refine Lq (Q_move rfl) ?_
     refine Lq (Q_move rfl) ?_
     refine Lq (Q_nilCheck rfl) ?_
     refine Lq (Q_fa0 rfl) ?_
     refine Lq (Q_ld 0 rfl rfl rfl rfl) ?_
     refine Lq (Q_move rfl) ?_
     refine Lq (Q_ixAt 1 A.length rfl rfl rfl rfl hPl rfl) ?_
     refine Lq (Q_ldEAt 1 A.length 0 (v := .pointer (some ⟨e.1, 0, none⟩)) rfl rfl rfl rfl hPl (by decide) (by rw [hPg]; rfl)) ?_
     refine Lq (Q_move rfl) ?_
     refine Lq (Q_move rfl) ?_
     refine L_o rfl rfl rfl (O_call [2,5,6,7,8] [0,1,3,4,9] hv rfl rfl ?_)
     rintro _ _ ⟨S2, rfl, rfl⟩
     refine JL.norm ?_
     refine Lq ((Q_not rfl).as (v' := .bool false) rfl) ?_
     refine Lq (Q_pickT rfl rfl) ?_
     refine Ln ?_
     refine J_condF rfl ?_
     refine J_skip ?_
     refine seqQ_normal ?_
     refine J_seq ?_
     have he := each_ok E K[A.length] to many bt bo bm S2 acc1 (by omega)
     cases hb2 : (rngStep to many acc1 K[A.length]).2 with
     | true =>
      rw [hb2] at he
      refine J_region ?_
      refine Lq (Q_move rfl) ?_
      refine Lq (Q_move rfl) ?_
      refine Lq (Q_nilCheck rfl) ?_
      refine Lq (Q_fa0 rfl) ?_
      refine Lq (Q_ld 5 rfl rfl rfl rfl) ?_
      refine Lq (Q_lenAt 8 rfl rfl) ?_
      refine Lq ((Q_lss rfl rfl).as (v' := .bool true) (congrArg Value.bool (decide_eq_true (by omega)))) ?_
      refine Lq (Q_move rfl) ?_
      refine Lq (Q_move rfl) ?_
      refine Lq (Q_move rfl) ?_
      refine Lq (Q_nilCheck rfl) ?_
      refine Lq (Q_fa0 rfl) ?_
      refine Lq (Q_ld 5 rfl rfl rfl rfl) ?_
      refine Lq (Q_move rfl) ?_
      refine Lq (Q_ixAt 8 A.length rfl rfl rfl rfl hlt rfl) ?_
      refine Lq (Q_ldEAAt 8 A.length 0 (vs := kvV K[A.length]) rfl rfl rfl rfl hlt (by decide) rfl) ?_
      refine L_o rfl rfl rfl (O_dyn [1,2,3,4] [0,5,6,7,8,9] rfl rfl rfl he rfl ?_)
      rintro _ _ ⟨S3, rfl, rfl⟩
      refine JL.norm ?_
      refine Lq ((Q_not rfl).as (v' := .bool false) rfl) ?_
      refine Lq (Q_pickT rfl rfl) ?_
      refine Ln ?_
      refine J_condF rfl ?_
      refine J_skip ?_
      refine blockQ_normal ?_
      refine seqQ_normal ?_
      refine J_region ?_
      refine Lq (Q_move rfl) ?_
      refine Lq (Q_add rfl rfl (by first | exact IntWalk.i64_in _ (by omega) | exact IntWalk.u8_in _ (by omega) | exact IntWalk.u32_in _ (by omega) | exact IntWalk.u64_in _ (by omega) | rfl)) ?_
      refine Lq (Q_assign rfl) ?_
      refine JL_nil ?_
      refine loopQ_normal (A.length + 1, (rngStep to many acc1 K[A.length]).1, S3) ⟨by show posK K f ≤ A.length + 1; omega, by show A.length + 1 ≤ _; omega, ?_, ?_, ?_⟩ (by show _ - (A.length + 1) < _ - A.length; omega) ⟨rfl, rfl, rfl, rfl, trivial⟩ ?_
      ·show (rngStep to many acc1 K[A.length]).1.length + (restF d K (CA ++ e.2 :: B.map (·.2)) (A.length + 1)).length ≤ _
       omega
      ·exact u3
      ·show runR to many acc (flF f (restF d K (CA ++ e.2 :: B.map (·.2)) A.length)) = _
       rw [hrr]; exact runR_ct hb2
      ·exact (Ent.re [4,7,5,6,8,0,1,2,3,9] rfl).trans ((Ent.mid_in (ndE d) A e B).trans (Ent.re [1,3,2,0,4,5,6,7,8] rfl))
     | false =>
      rw [hb2] at he
      rw [hrr, runR_cf hb2]
      refine J_region ?_
      refine Lq (Q_move rfl) ?_
      refine Lq (Q_move rfl) ?_
      refine Lq (Q_nilCheck rfl) ?_
      refine Lq (Q_fa0 rfl) ?_
      refine Lq (Q_ld 5 rfl rfl rfl rfl) ?_
      refine Lq (Q_lenAt 8 rfl rfl) ?_
      refine Lq ((Q_lss rfl rfl).as (v' := .bool true) (congrArg Value.bool (decide_eq_true (by omega)))) ?_
      refine Lq (Q_move rfl) ?_
      refine Lq (Q_move rfl) ?_
      refine Lq (Q_move rfl) ?_
      refine Lq (Q_nilCheck rfl) ?_
      refine Lq (Q_fa0 rfl) ?_
      refine Lq (Q_ld 5 rfl rfl rfl rfl) ?_
      refine Lq (Q_move rfl) ?_
      refine Lq (Q_ixAt 8 A.length rfl rfl rfl rfl hlt rfl) ?_
      refine Lq (Q_ldEAAt 8 A.length 0 (vs := kvV K[A.length]) rfl rfl rfl rfl hlt (by decide) rfl) ?_
      refine L_o rfl rfl rfl (O_dyn [1,2,3,4] [0,5,6,7,8,9] rfl rfl rfl he rfl ?_)
      rintro _ _ ⟨S3, rfl, rfl⟩
      refine JL.norm ?_
      refine Lq ((Q_not rfl).as (v' := .bool true) rfl) ?_
      refine Lq (Q_pickT rfl rfl) ?_
      refine Ln ?_
      refine J_condT rfl ?_
      refine Sr ?_
      refine Lq (Q_assign rfl) ?_
      refine Ln ?_
      refine J_ret ?_
      refine blockQ_ret ?_
      refine seqQ_ret ?_
      refine loopQ_ret ?_
      refine blockQ_ret ?_
      refine seqQ_ret ?_
      refine retQ_ret _ [nodeA (d + 1) p (K, CA ++ e.2 :: B.map (·.2)), cel bt [str to] 9, cel bo [S3.v] 54, cel bm [.int .i64 many] 3, slc tKv true S3 (rngStep to many acc1 K[A.length]).1] (.cons (RV_tmp rfl) .nil) ⟨S3, rfl, rfl⟩ ?_
      exact (Ent.re [4,7,5,6,8,0,1,2,3,9] rfl).trans ((Ent.mid_in (ndE d) A e B).trans ((Ent.re [1,3,2,0,4,5,6,7,8] rfl).trans (Ent.innerA (es := A ++ e :: B) hem)))
   ·have hB : B = [] := List.eq_nil_of_length_eq_zero (by simp at hCm; omega)
    subst hB
    obtain ⟨l1, l2⟩ := rest_last (d := d) (K := K) (A := CA) (c := e.2) (by omega)
    rw [hAm] at l1 l2
    simp only [List.map_nil] at hal hup hr hem ⊢
    rw [l1] at hal hup
    have hv := ih e.1 3 e.2 acc S1 hwe hup hal
    have hrl := runR_len to many (flF f (flat d e.2)) acc
    have hfl : (flF f (flat d e.2)).length ≤ (flat d e.2).length := List.length_filter_le _ _
    rw [l1]
    cases hb : (runR to many acc (flF f (flat d e.2))).2 with
    | false =>
     rw [hb] at hv
     refine J.ent ((Ent.re [3,0,2,1,4,5,6,7,8] rfl).trans ((Ent.mid_out (ndE d) A e []).trans (Ent.re [2,3,0,1,4,5,6,7,8,9] rfl))) ?_
     refine J_skip ?_
     refine seqQ_normal ?_
     refine J_seq ?_
     refine J_block ?_
     refine J_seq ?_
     refine Sr ?_
     refine Lq (Q_move rfl) ?_
     refine L_o rfl rfl rfl (O_call [0,1] [2,3,4,5,6,7,8,9] hlf rfl rfl ?_)
     rintro _ _ ⟨rfl, rfl⟩
     refine JL.norm ?_
     refine Lq ((Q_not rfl).as (v' := .bool true) rfl) ?_
     refine Lq (Q_move rfl) ?_
     refine Lq (Q_move rfl) ?_
     refine Lq (Q_nilCheck rfl) ?_
     refine Lq (Q_fa0 rfl) ?_
     refine Lq (Q_ld 0 rfl rfl rfl rfl) ?_
     refine Lq (Q_move rfl) ?_
     refine Lq (Q_ixAt 1 A.length rfl rfl rfl rfl hPl rfl) ?_
     refine Lq (Q_ldEAt 1 A.length 0 (v := .pointer (some ⟨e.1, 0, none⟩)) rfl rfl rfl rfl hPl (by decide) (by rw [hPg]; rfl)) ?_
     refine Lq (Q_move rfl) ?_
     refine Lq (Q_move rfl) ?_
     refine L_o rfl rfl rfl (O_call [2,5,6,7,8] [0,1,3,4,9] hv rfl rfl ?_)
     rintro _ _ ⟨S2, rfl, rfl⟩
     refine JL.norm ?_
     refine Lq ((Q_not rfl).as (v' := .bool true) rfl) ?_
     refine Lq (Q_pickT rfl rfl) ?_
     refine Ln ?_
     refine J_condT rfl ?_
     refine Sr ?_
     refine Lq (Q_assign rfl) ?_
     refine Ln ?_
     refine J_ret ?_
     refine seqQ_ret ?_
     refine blockQ_ret ?_
     refine seqQ_ret ?_
     refine loopQ_ret ?_
     refine blockQ_ret ?_
     refine seqQ_ret ?_
     refine retQ_ret _ [nodeA (d + 1) p (K, CA ++ e.2 :: []), cel bt [str to] 9, cel bo [S2.v] 54, cel bm [.int .i64 many] 3, slc tKv true S2 (runR to many acc (flF f (flat d e.2))).1] (.cons (RV_tmp rfl) .nil) ⟨S2, rfl, rfl⟩ ?_
     exact (Ent.re [0,7,5,6,8,1,2,3,4,9] rfl).trans ((Ent.mid_in (ndE d) A e []).trans ((Ent.re [1,3,2,0,4,5,6,7,8] rfl).trans (Ent.innerA (es := A ++ e :: []) hem)))
    | true =>
     rw [hb] at hv
     refine J.ent ((Ent.re [3,0,2,1,4,5,6,7,8] rfl).trans ((Ent.mid_out (ndE d) A e []).trans (Ent.re [2,3,0,1,4,5,6,7,8,9] rfl))) ?_
     refine J_skip ?_
     refine seqQ_normal ?_
     refine J_seq ?_
     refine J_block ?_
     refine J_seq ?_
     refine Sr ?_
     refine Lq (Q_move rfl) ?_
     refine L_o rfl rfl rfl (O_call [0,1] [2,3,4,5,6,7,8,9] hlf rfl rfl ?_)
     rintro _ _ ⟨rfl, rfl⟩
     refine JL.norm ?_
     refine Lq ((Q_not rfl).as (v' := .bool true) rfl) ?_
     refine Lq (Q_move rfl) ?_
     refine Lq (Q_move rfl) ?_
     refine Lq (Q_nilCheck rfl) ?_
     refine Lq (Q_fa0 rfl) ?_
     refine Lq (Q_ld 0 rfl rfl rfl rfl) ?_
     refine Lq (Q_move rfl) ?_
     refine Lq (Q_ixAt 1 A.length rfl rfl rfl rfl hPl rfl) ?_
     refine Lq (Q_ldEAt 1 A.length 0 (v := .pointer (some ⟨e.1, 0, none⟩)) rfl rfl rfl rfl hPl (by decide) (by rw [hPg]; rfl)) ?_
     refine Lq (Q_move rfl) ?_
     refine Lq (Q_move rfl) ?_
     refine L_o rfl rfl rfl (O_call [2,5,6,7,8] [0,1,3,4,9] hv rfl rfl ?_)
     rintro _ _ ⟨S2, rfl, rfl⟩
     refine JL.norm ?_
     refine Lq ((Q_not rfl).as (v' := .bool false) rfl) ?_
     refine Lq (Q_pickT rfl rfl) ?_
     refine Ln ?_
     refine J_condF rfl ?_
     refine J_skip ?_
     refine seqQ_normal ?_
     refine Sr ?_
     refine Lq (Q_move rfl) ?_
     refine Lq (Q_move rfl) ?_
     refine Lq (Q_nilCheck rfl) ?_
     refine Lq (Q_fa0 rfl) ?_
     refine Lq (Q_ld 5 rfl rfl rfl rfl) ?_
     refine Lq (Q_lenAt 8 rfl rfl) ?_
     refine Lq ((Q_lss rfl rfl).as (v' := .bool false) (congrArg Value.bool (decide_eq_false (by omega)))) ?_
     refine Lq (Q_move rfl) ?_
     refine L_n rfl rfl rfl ?_
     refine L_n rfl rfl rfl ?_
     refine L_n rfl rfl rfl ?_
     refine L_n rfl rfl rfl ?_
     refine L_n rfl rfl rfl ?_
     refine L_n rfl rfl rfl ?_
     refine L_n rfl rfl rfl ?_
     refine L_n rfl rfl rfl ?_
     refine L_n rfl rfl rfl ?_
     refine L_n rfl rfl rfl ?_
     refine Lq (Q_pickF rfl rfl) ?_
     refine Ln ?_
     refine J_condF rfl ?_
     refine J_skip ?_
     refine blockQ_normal ?_
     refine seqQ_normal ?_
     refine J_region ?_
     refine Lq (Q_move rfl) ?_
     refine Lq (Q_add rfl rfl (by first | exact IntWalk.i64_in _ (by omega) | exact IntWalk.u8_in _ (by omega) | exact IntWalk.u32_in _ (by omega) | exact IntWalk.u64_in _ (by omega) | rfl)) ?_
     refine Lq (Q_assign rfl) ?_
     refine JL_nil ?_
     refine loopQ_normal (A.length + 1, (runR to many acc (flF f (flat d e.2))).1, S2) ⟨by show posK K f ≤ A.length + 1; omega, by show A.length + 1 ≤ _; omega, ?_, ?_, ?_⟩ (by show _ - (A.length + 1) < _ - A.length; omega) ⟨rfl, rfl, rfl, rfl, trivial⟩ ?_
     ·show (runR to many acc (flF f (flat d e.2))).1.length + (restF d K (CA ++ [e.2]) (A.length + 1)).length ≤ _
      rw [l2]; simp only [List.length_nil]; omega
     ·show Up (restF d K (CA ++ [e.2]) (A.length + 1))
      rw [l2]; exact List.Pairwise.nil
     ·show runR to many acc (flF f (flat d e.2)) = runR to many (runR to many acc (flF f (flat d e.2))).1 (flF f (restF d K (CA ++ [e.2]) (A.length + 1)))
      rw [l2]
      exact Prod.ext rfl hb
     ·exact (Ent.re [0,7,5,6,8,1,2,3,4,9] rfl).trans ((Ent.mid_in (ndE d) A e []).trans (Ent.re [1,3,2,0,4,5,6,7,8] rfl))
  ·have hie : i = K.length + 1 := by omega
   have hrn : restF d K (es.map (·.2)) i = [] := by
    unfold restF
    have x1 : K.drop i = [] := List.drop_eq_nil_of_le (by omega)
    have x2 : (es.map (·.2)).drop i = [] := List.drop_eq_nil_of_le (by simp; omega)
    rw [x1, x2]
    rfl
   rw [hrn]
   refine J_exit ?_
   refine seqQ_exit ?_
   refine loopQ_exit ?_
   refine blockQ_hit ?_
   refine seqQ_normal ?_
   refine Sr ?_
   refine Lq (Q_assign rfl) ?_
   refine Ln ?_
   refine J_ret ?_
   exact retQ_ret _ [nodeA (d + 1) p (K, es.map (·.2)), cel bt [str to] 9, cel bo [S1.v] 54, cel bm [.int .i64 many] 3, slc tKv true S1 acc] (.cons (RV_tmp rfl) .nil) ⟨S1, rfl, rfl⟩ (Ent.innerA rfl)
theorem trange_ok (E : World) (p : Nat) (l : List Kv) (f to : Ky) (many : Int) (hl : l.length ≤ 1000000) : Does Tryz.prog E 48 [.pointer (some ⟨p, 0, none⟩), str f, str to, .int .i64 many] [treeA p l] fun v L => ∃ S : SV, v = S.v ∧ L = [treeA p l, slc tKv true S (rngL l f to many)] := by
 refine Does.of Tryz.func48 rfl Tryz.ntmps48 rfl rfl fun F => ?_
 refine J.norm ?_
 refine Sr ?_
 refine L_o rfl rfl rfl (O_box rfl fun b6 => ?_)
 refine L_o rfl rfl rfl (O_box rfl fun b7 => ?_)
 refine Lq (Q_assign rfl) ?_
 refine Ln ?_
 refine J_seq ?_
 refine J_seq ?_
 by_cases h1 : many < 1
 ·skip
  refine J_region ?_
  refine Lq (Q_move rfl) ?_
  refine Lq ((Q_peql rfl rfl).as (v' := .bool false) rfl) ?_
  refine Lq (Q_move rfl) ?_
  refine Lq (Q_ld 0 rfl rfl rfl rfl) ?_
  refine Lq ((Q_lss rfl rfl).as (v' := .bool true) (congrArg Value.bool (decide_eq_true h1))) ?_
  refine Lq (Q_pickF rfl rfl) ?_
  refine Ln ?_
  refine J_condT rfl ?_
  refine Sr ?_
  refine Lq (Q_assign rfl) ?_
  refine Ln ?_
  refine J_ret ?_
  refine seqQ_ret ?_
  refine retQ_ret _ [treeA p l, slc tKv true SV.nil (rngL l f to many)] (.cons (RV_tmp rfl) .nil) ⟨SV.nil, rfl, rfl⟩ ?_
  rw [rngL, if_pos h1]
  exact (Ent.mk fun _ _ h => (h.lay_nil tKv true : Sat _ _ (slc tKv true SV.nil [] :: _))).trans (Ent.re [3,0,4] rfl)
 ·skip
  refine J_region ?_
  refine Lq (Q_move rfl) ?_
  refine Lq ((Q_peql rfl rfl).as (v' := .bool false) rfl) ?_
  refine Lq (Q_move rfl) ?_
  refine Lq (Q_ld 0 rfl rfl rfl rfl) ?_
  refine Lq ((Q_lss rfl rfl).as (v' := .bool false) (congrArg Value.bool (decide_eq_false h1))) ?_
  refine Lq (Q_pickF rfl rfl) ?_
  refine Ln ?_
  refine J_condF rfl ?_
  refine J_skip ?_
  refine seqQ_normal ?_
  refine J_seq ?_
  refine J.ent (Ent.re [2,0,1,3] rfl) ?_
  refine J.tree fun r d t hu hw hf => ?_
  refine J_region ?_
  refine L_o rfl rfl rfl (O_alloc fun b9 => ?_)
  refine Ln ?_
  refine J_seq ?_
  refine J.ent (Ent.mk fun _ _ h => (h.lay_nil tKv true : Sat _ _ (slc tKv true SV.nil [] :: _))) ?_
  have hv := visit_ok E f to many b6 b9 b7 d r (min d 1) t [] SV.nil hw (by rw [hf]; exact hu) (by rw [hf]; simp; omega)
  rw [hf] at hv
  refine J_region ?_
  refine Lq (Q_move rfl) ?_
  refine Lq (Q_nilCheck rfl) ?_
  refine Lq (Q_fa0 rfl) ?_
  refine Lq (Q_ld 3 rfl rfl rfl rfl) ?_
  refine Lq (Q_move rfl) ?_
  refine Lq (Q_makeFunc (xs := []) (ys := [.tmp 6, .tmp 9, .tmp 7]) (vs := []) (us := [.pointer (some ⟨b6, 0, none⟩), .pointer (some ⟨b9, 0, none⟩), .pointer (some ⟨b7, 0, none⟩)]) rfl rfl) ?_
  refine L_o rfl rfl rfl (O_call [2,5,1,4,0] [3,6] hv rfl rfl ?_)
  rintro _ _ ⟨S2, rfl, rfl⟩
  refine JL.norm ?_
  refine Ln ?_
  refine Sr ?_
  refine Lq (Q_ld 2 rfl rfl rfl rfl) ?_
  refine Lq (Q_assign rfl) ?_
  refine Ln ?_
  refine J_ret ?_
  refine retQ_ret _ [treeA p l, slc tKv true S2 (rngL l f to many)] (.cons (RV_tmp rfl) .nil) ⟨S2, rfl, rfl⟩ ?_
  rw [rngL, if_neg h1]
  exact (Ent.re [0,5,4,6] rfl).trans ((Ent.mkX hw hf).trans ((Ent.re [1,0,2,3] rfl).trans (Ent.tree hu)))
end Go.Proofs.Bt
/- Is a tree one? -/
set_option autoImplicit false
namespace Go.SL
theorem J.cutB {P : Program} {E : World} {n id : Nat} {c : Code} {Q : Post} {ρ : Env} {L : List HProp} (M : Post) (h : J P E n c (blockQ id M) ρ L) (hq : ∀ e ρ L, M e ρ L → Q e ρ L) : J P E n c (blockQ id Q) ρ L := h.mono (blockQ_mono hq)
end Go.SL
namespace Go.Proofs.Bt
open Go.SL
theorem Does.post {P : Program} {E : World} {f : Nat} {args : List Value} {pre pre' : List HProp} {K K2 : Value → List HProp → Prop} (h : Does P E f args pre K) (hp : ∀ F, Ent (pre' ++ [F]) (pre ++ [F])) (hk : ∀ v L, K v L → ∃ L2, K2 v L2 ∧ ∀ F, Ent (L ++ [F]) (L2 ++ [F])) : Does P E f args pre' K2 := fun F w hs =>
 (h F w (hp F E w hs)).mono fun _ _ ⟨v, L', he, hK, hs'⟩ =>
  have ⟨L2, h1, h2⟩ := hk v L' hK
  ⟨v, L2, he, h1, h2 F E _ hs'⟩
theorem Does.leaf {P : Program} {E : World} {f : Nat} {args : List Value} {p : Nat} {t : T 0} {L : List HProp} {K : Value → List HProp → Prop} (h : ∀ S R, Does P E f args (ndC p S R :: slc tKv true S (tks 0 t) :: slc tNd true R [] :: L) K) : Does P E f args (nodeA 0 p t :: L) K := fun F w hs =>
 have ⟨g, hg⟩ := Sat.leaf_out (L := L ++ [F]) hs
 h g.1 g.2 F w hg
theorem Does.inner {P : Program} {E : World} {f : Nat} {args : List Value} {d p : Nat} {t : T (d + 1)} {L : List HProp} {K : Value → List HProp → Prop} (h : ∀ (S R : SV) (es : List (Nat × T d)), es.map (·.2) = t.2 → Does P E f args (ndC p S R :: slc tKv true S t.1 :: slc tNd true R (es.map fun e => some e.1) :: stars (es.map (ndE d)) :: L) K) : Does P E f args (nodeA (d + 1) p t :: L) K := fun F w hs =>
 have ⟨g, hg⟩ := Sat.inner_out (L := L ++ [F]) hs
 h g.1.1 g.1.2.1 g.1.2.2 g.2 F w hg
/-- A bound: none, or the key of a pair of a node above. -/
abbrev Lim : Type := Option (SV × List Kv × Kv × List Kv)
def LimOk (E : World) (C : HProp) : Lim → Prop
 | none => True
 | some (S, A, x, B) => ∀ (w : World) (L : List HProp), Sat E w (C :: L) → Rd tKv w S (A ++ x :: B)
abbrev dep (d : Nat) : Nat → Int
 | 0 => 0
 | _ + 1 => (((d + 1 : Nat)) : Int)
theorem Ent.star_in {A B : HProp} {L : List HProp} : Ent (A :: B :: L) (star A B :: L) := fun _ _ h => Sat.mkstar h
theorem Ent.star_out {A B : HProp} {L : List HProp} : Ent (star A B :: L) (A :: B :: L) := fun _ _ h => Sat.star h
theorem LimOk.own {E : World} {C : HProp} {S : SV} {A B : List Kv} {x : Kv} : LimOk E (star C (slc tKv true S (A ++ x :: B))) (some (S, A, x, B)) := fun w L hs => by
 have h1 := hs.star
 have h2 : Sat E w (slc tKv true S (A ++ x :: B) :: C :: L) := Sat.swap2 h1
 exact h2.rd 0 rfl
attribute [local irreducible] J JL QOp JOp seqQ blockQ loopQ retQ slc cel hex star pur stars Does RV Ent pAt scopeQ
attribute [local irreducible] nodeA nodeX treeA
end Go.Proofs.Bt
/- Words and votes, where one node is all: a quorum is one. -/
set_option autoImplicit false
namespace Go.Proofs
open Go.SL Go.Proofs.Bt
structure Wd where
 kind : Int
 from' : Int
 round : Int
 valid : Int
 value : Ky
abbrev wdV (w : Wd) : List Value := [.int .i64 w.kind, .int .i64 w.from', .int .i64 w.round, .int .i64 w.valid, str w.value]
def tWd : Ty Wd := ⟨59, 5, wdV, fun _ => rfl, by decide, fun a v hv => by simp [wdV] at hv; rcases hv with rfl | rfl | rfl | rfl | rfl <;> rfl⟩
instance : TyI Tryz.prog tWd.e 5 (.agg #[.int .i64 0, .int .i64 0, .int .i64 0, .int .i64 0, .string ⟨#[]⟩]) 48 := inferInstanceAs (TyI Tryz.prog 59 5 (.agg #[.int .i64 0, .int .i64 0, .int .i64 0, .int .i64 0, .string ⟨#[]⟩]) 48)
instance : TyU Tryz.prog 124 (.slice tWd.e) := inferInstanceAs (TyU Tryz.prog 124 (.slice 59))
/-- A vote of the one node in round 0. -/
abbrev vote0 (k : Int) (v : Ky) : Wd := ⟨k, 1, 0, 0, v⟩
abbrev votC (p : Nat) (X : Value) : HProp := cel p [.int .i64 1, .int .i64 0, X] 179
def votA (p : Nat) (l : List Wd) : HProp := hex fun S : SV => stars [votC p S.v, slc tWd true S l]
theorem Ent.vot {p : Nat} {S : SV} {l : List Wd} {L : List HProp} : Ent (votC p S.v :: slc tWd true S l :: L) (votA p l :: L) := fun E w h => by
 have h1 := Sat.rot (A := [votC p S.v, slc tWd true S l]) (B := L) h
 have h4 : Sat E w (stars [votC p S.v, slc tWd true S l] :: L) := Sat.rot (A := L) h1.fold
 exact h4.mkex (f := fun S : SV => stars [votC p S.v, slc tWd true S l]) S
theorem Does.vot {P : Program} {E : World} {f : Nat} {args : List Value} {p : Nat} {l : List Wd} {L : List HProp} {K : Value → List HProp → Prop} (h : ∀ S : SV, Does P E f args (votC p S.v :: slc tWd true S l :: L) K) : Does P E f args (votA p l :: L) K := fun F w hs => by
 obtain ⟨q, hq⟩ := Sat.ex (f := fun S : SV => stars [votC p S.v, slc tWd true S l]) (R := L ++ [F]) hs
 exact h q F w (Sat.rot (A := L ++ [F]) (hq.rot (A := [_]) (B := L ++ [F])).unfold)
attribute [local irreducible] J JL QOp JOp seqQ blockQ loopQ retQ slc cel hex star pur stars Does RV Ent pAt scopeQ
theorem quorum_ok (E : World) : Does Tryz.prog E 84 [.int .i64 1, .int .i64 0] [] fun v L => v = .int .i64 1 ∧ L = [] := by
 refine Does.of Tryz.func84 rfl Tryz.ntmps84 rfl rfl fun F => ?_
 refine J.norm ?_
 refine Sr ?_
 refine Lq (Q_assign rfl) ?_
 refine Ln ?_
 refine J_seq ?_
 refine Sr ?_
 refine Lq (Q_move rfl) ?_
 refine Lq ((Q_lss rfl rfl).as (v' := .bool false) rfl) ?_
 refine Lq (Q_move rfl) ?_
 refine Lq (Q_move rfl) ?_
 refine Lq ((Q_gtr rfl rfl).as (v' := .bool false) rfl) ?_
 refine Lq (Q_pickF rfl rfl) ?_
 refine Lq (Q_move rfl) ?_
 refine Lq (Q_move rfl) ?_
 refine Lq (Q_move rfl) ?_
 refine Lq (Q_mul (r := 0) rfl rfl rfl) ?_
 refine Lq (Q_add (r := 1) rfl rfl rfl) ?_
 refine Lq ((Q_lss rfl rfl).as (v' := .bool false) rfl) ?_
 refine Lq (Q_pickF rfl rfl) ?_
 refine Lq (Q_move rfl) ?_
 refine Lq (Q_move rfl) ?_
 refine Lq ((Q_gtr rfl rfl).as (v' := .bool false) rfl) ?_
 refine Lq (Q_pickF rfl rfl) ?_
 refine Ln ?_
 refine J_condF rfl ?_
 refine J_skip ?_
 refine seqQ_normal ?_
 refine Sr ?_
 refine Lq (Q_move rfl) ?_
 refine Lq (Q_move rfl) ?_
 refine Lq (Q_add (r := 1) rfl rfl rfl) ?_
 refine Lq (Q_quo (r := 0) rfl rfl (by decide) rfl) ?_
 refine Lq (Q_add (r := 1) rfl rfl rfl) ?_
 refine Lq (Q_assign rfl) ?_
 refine Ln ?_
 refine J_ret ?_
 exact retQ_ret _ [] (.cons (RV_tmp rfl) .nil) ⟨rfl, rfl⟩ (Ent.refl _)
theorem vnew_ok (E : World) : Does Tryz.prog E 57 [.int .i64 1, .int .i64 0] [] fun v L => ∃ p : Nat, v = .pointer (some ⟨p, 0, none⟩) ∧ L = [votA p []] := by
 refine Does.of Tryz.func57 rfl Tryz.ntmps57 rfl rfl fun F => ?_
 refine J.norm ?_
 refine Sr ?_
 refine Lq (Q_assign rfl) ?_
 refine Ln ?_
 refine J_seq ?_
 refine Sr ?_
 refine Lq (Q_move rfl) ?_
 refine Lq (Q_move rfl) ?_
 refine L_o rfl rfl rfl (O_call [] [0] (quorum_ok E) rfl rfl ?_)
 rintro _ _ ⟨rfl, rfl⟩
 refine JL.norm ?_
 refine Lq ((Q_eql rfl rfl).as (v' := .bool false) rfl) ?_
 refine Ln ?_
 refine J_condF rfl ?_
 refine J_skip ?_
 refine seqQ_normal ?_
 refine Sr ?_
 refine Lq (Q_move rfl) ?_
 refine Lq (Q_move rfl) ?_
 refine Lq (Q_build rfl) ?_
 refine L_o rfl rfl rfl (O_box rfl fun b12 => ?_)
 refine Lq (Q_assign rfl) ?_
 refine Ln ?_
 refine J_ret ?_
 refine retQ_ret _ [votA b12 []] (.cons (RV_tmp rfl) .nil) ⟨b12, rfl, rfl⟩ ?_
 exact (Ent.mk fun _ _ h => (h.lay_nil tWd true : Sat _ _ (slc tWd true SV.nil [] :: _))).trans ((Ent.re [1,0,2] rfl).trans (Ent.vot (S := SV.nil)))
theorem vmay_ok (E : World) (p : Nat) (X : Value) (k : Int) (v : Ky) (hk : k = 2 ∨ k = 3) (hv : v.length ≤ 4096) : Does Tryz.prog E 133 [.pointer (some ⟨p, 0, none⟩), .agg (wdV (vote0 k v)).toArray] [votC p X] fun r L => r = .bool true ∧ L = [votC p X] := by
 rcases hk with rfl | rfl
 ·refine Does.of Tryz.func133 rfl Tryz.ntmps133 rfl rfl fun F => ?_
  refine J.norm ?_
  refine Sr ?_
  refine L_o rfl rfl rfl (O_box rfl fun b3 => ?_)
  refine Lq (Q_assign rfl) ?_
  refine Ln ?_
  refine Sr ?_
  refine Lq (Q_fa0 rfl) ?_
  refine Lq (Q_ld 0 rfl rfl rfl rfl) ?_
  refine Lq ((Q_eql rfl rfl).as (v' := .bool true) rfl) ?_
  refine Lq (Q_move rfl) ?_
  refine L_n rfl rfl rfl ?_
  refine L_n rfl rfl rfl ?_
  refine L_n rfl rfl rfl ?_
  refine Lq (Q_pickT rfl rfl) ?_
  refine Lq (Q_assign rfl) ?_
  refine Ln ?_
  refine J_seq ?_
  refine DL [0,1,2,3,4,5,6,7,8,9,10,11,12,13,14,15,16,17,18,19,20,21,22,23,24,25,26,27,28,29,30,31] (.quiet 0 (.quiet 1 (.quiet 2 (.quiet 3 (.quiet 4 (.quiet 5 (.quiet 6 (.quiet 7 (.quiet 8 (.quiet 9 (.quiet 10 (.quiet 11 (.quiet 12 (.quiet 13 (.quiet 14 (.quiet 15 (.quiet 16 (.quiet 17 (.quiet 18 (.quiet 19 (.quiet 20 (.quiet 21 (.quiet 22 (.quiet 23 (.quiet 24 (.quiet 25 (.quiet 26 (.quiet 27 (.quiet 28 (.quiet 29 (.quiet 30 (.quiet 31 .done)))))))))))))))))))))))))))))))) Tryz.mixed ?_
  refine Sq (Ent.refl _) rfl (Q_move rfl) ?_
  refine Sq (Ent.refl _) rfl (Q_move rfl) ?_
  refine Sq (Ent.refl _) rfl (Q_fa0 rfl) ?_
  refine Sq (Ent.refl _) rfl (Q_ld 0 rfl rfl rfl rfl) ?_
  refine Sq (Ent.refl _) rfl ((Q_geq rfl rfl).as (v' := .bool true) rfl) ?_
  refine Sq (Ent.refl _) rfl (Q_pickT rfl rfl) ?_
  refine Sq (Ent.refl _) rfl (Q_move rfl) ?_
  refine Sq (Ent.refl _) rfl (Q_fa0 rfl) ?_
  refine Sq (Ent.refl _) rfl (Q_ld 0 rfl rfl rfl rfl) ?_
  refine Sq (Ent.refl _) rfl (Q_move rfl) ?_
  refine Sq (Ent.refl _) rfl (Q_nilCheck rfl) ?_
  refine Sq (Ent.refl _) rfl (Q_fa0 rfl) ?_
  refine Sq (Ent.refl _) rfl (Q_ld 1 rfl rfl rfl rfl) ?_
  refine Sq (Ent.refl _) rfl ((Q_leq rfl rfl).as (v' := .bool true) rfl) ?_
  refine Sq (Ent.refl _) rfl (Q_pickT rfl rfl) ?_
  refine Sq (Ent.refl _) rfl (Q_move rfl) ?_
  refine Sq (Ent.refl _) rfl (Q_fa0 rfl) ?_
  refine Sq (Ent.refl _) rfl (Q_ld 0 rfl rfl rfl rfl) ?_
  refine Sq (Ent.refl _) rfl ((Q_geq rfl rfl).as (v' := .bool true) rfl) ?_
  refine Sq (Ent.refl _) rfl (Q_pickT rfl rfl) ?_
  refine Sq (Ent.refl _) rfl (Q_move rfl) ?_
  refine Sq (Ent.refl _) rfl (Q_fa0 rfl) ?_
  refine Sq (Ent.refl _) rfl (Q_ld 0 rfl rfl rfl rfl) ?_
  refine Sq (Ent.refl _) rfl ((Q_lss rfl rfl).as (v' := .bool true) rfl) ?_
  refine Sq (Ent.refl _) rfl (Q_pickT rfl rfl) ?_
  refine Sq (Ent.refl _) rfl (Q_move rfl) ?_
  refine Sq (Ent.refl _) rfl (Q_fa0 rfl) ?_
  refine Sq (Ent.refl _) rfl (Q_ld 0 rfl rfl rfl rfl) ?_
  refine Sq (Ent.refl _) rfl (Q_slen rfl) ?_
  refine Sq (Ent.refl _) rfl ((Q_leq rfl rfl).as (v' := .bool true) (congrArg Value.bool (decide_eq_true (by show (v.length : Int) ≤ 4096; omega)))) ?_
  refine Sq (Ent.refl _) rfl (Q_pickT rfl rfl) ?_
  refine Sq (Ent.refl _) rfl (Q_assign rfl) ?_
  refine S_nil ?_
  refine seqQ_normal ?_
  refine J_ret ?_
  exact retQ_ret _ [votC p X] (.cons (RV_tmp rfl) .nil) ⟨rfl, rfl⟩ (Ent.re [1,2] rfl)
 ·refine Does.of Tryz.func133 rfl Tryz.ntmps133 rfl rfl fun F => ?_
  refine J.norm ?_
  refine Sr ?_
  refine L_o rfl rfl rfl (O_box rfl fun b3 => ?_)
  refine Lq (Q_assign rfl) ?_
  refine Ln ?_
  refine Sr ?_
  refine Lq (Q_fa0 rfl) ?_
  refine Lq (Q_ld 0 rfl rfl rfl rfl) ?_
  refine Lq ((Q_eql rfl rfl).as (v' := .bool false) rfl) ?_
  refine Lq (Q_move rfl) ?_
  refine Lq (Q_fa0 rfl) ?_
  refine Lq (Q_ld 0 rfl rfl rfl rfl) ?_
  refine Lq ((Q_eql rfl rfl).as (v' := .bool true) rfl) ?_
  refine Lq (Q_pickF rfl rfl) ?_
  refine Lq (Q_assign rfl) ?_
  refine Ln ?_
  refine J_seq ?_
  refine DL [0,1,2,3,4,5,6,7,8,9,10,11,12,13,14,15,16,17,18,19,20,21,22,23,24,25,26,27,28,29,30,31] (.quiet 0 (.quiet 1 (.quiet 2 (.quiet 3 (.quiet 4 (.quiet 5 (.quiet 6 (.quiet 7 (.quiet 8 (.quiet 9 (.quiet 10 (.quiet 11 (.quiet 12 (.quiet 13 (.quiet 14 (.quiet 15 (.quiet 16 (.quiet 17 (.quiet 18 (.quiet 19 (.quiet 20 (.quiet 21 (.quiet 22 (.quiet 23 (.quiet 24 (.quiet 25 (.quiet 26 (.quiet 27 (.quiet 28 (.quiet 29 (.quiet 30 (.quiet 31 .done)))))))))))))))))))))))))))))))) Tryz.mixed ?_
  refine Sq (Ent.refl _) rfl (Q_move rfl) ?_
  refine Sq (Ent.refl _) rfl (Q_move rfl) ?_
  refine Sq (Ent.refl _) rfl (Q_fa0 rfl) ?_
  refine Sq (Ent.refl _) rfl (Q_ld 0 rfl rfl rfl rfl) ?_
  refine Sq (Ent.refl _) rfl ((Q_geq rfl rfl).as (v' := .bool true) rfl) ?_
  refine Sq (Ent.refl _) rfl (Q_pickT rfl rfl) ?_
  refine Sq (Ent.refl _) rfl (Q_move rfl) ?_
  refine Sq (Ent.refl _) rfl (Q_fa0 rfl) ?_
  refine Sq (Ent.refl _) rfl (Q_ld 0 rfl rfl rfl rfl) ?_
  refine Sq (Ent.refl _) rfl (Q_move rfl) ?_
  refine Sq (Ent.refl _) rfl (Q_nilCheck rfl) ?_
  refine Sq (Ent.refl _) rfl (Q_fa0 rfl) ?_
  refine Sq (Ent.refl _) rfl (Q_ld 1 rfl rfl rfl rfl) ?_
  refine Sq (Ent.refl _) rfl ((Q_leq rfl rfl).as (v' := .bool true) rfl) ?_
  refine Sq (Ent.refl _) rfl (Q_pickT rfl rfl) ?_
  refine Sq (Ent.refl _) rfl (Q_move rfl) ?_
  refine Sq (Ent.refl _) rfl (Q_fa0 rfl) ?_
  refine Sq (Ent.refl _) rfl (Q_ld 0 rfl rfl rfl rfl) ?_
  refine Sq (Ent.refl _) rfl ((Q_geq rfl rfl).as (v' := .bool true) rfl) ?_
  refine Sq (Ent.refl _) rfl (Q_pickT rfl rfl) ?_
  refine Sq (Ent.refl _) rfl (Q_move rfl) ?_
  refine Sq (Ent.refl _) rfl (Q_fa0 rfl) ?_
  refine Sq (Ent.refl _) rfl (Q_ld 0 rfl rfl rfl rfl) ?_
  refine Sq (Ent.refl _) rfl ((Q_lss rfl rfl).as (v' := .bool true) rfl) ?_
  refine Sq (Ent.refl _) rfl (Q_pickT rfl rfl) ?_
  refine Sq (Ent.refl _) rfl (Q_move rfl) ?_
  refine Sq (Ent.refl _) rfl (Q_fa0 rfl) ?_
  refine Sq (Ent.refl _) rfl (Q_ld 0 rfl rfl rfl rfl) ?_
  refine Sq (Ent.refl _) rfl (Q_slen rfl) ?_
  refine Sq (Ent.refl _) rfl ((Q_leq rfl rfl).as (v' := .bool true) (congrArg Value.bool (decide_eq_true (by show (v.length : Int) ≤ 4096; omega)))) ?_
  refine Sq (Ent.refl _) rfl (Q_pickT rfl rfl) ?_
  refine Sq (Ent.refl _) rfl (Q_assign rfl) ?_
  refine S_nil ?_
  refine seqQ_normal ?_
  refine J_ret ?_
  exact retQ_ret _ [votC p X] (.cons (RV_tmp rfl) .nil) ⟨rfl, rfl⟩ (Ent.re [1,2] rfl)
end Go.Proofs
/- Votes put, counted. -/
set_option autoImplicit false
namespace Go.Proofs
open Go.SL Go.Proofs.Bt
/-- How many of them are of a kind. -/
def cntK (l : List Wd) (k : Int) : Nat := (l.filter fun w => decide (w.kind = k)).length
theorem cnt_take {l : List Wd} {k : Int} {i : Nat} (h : i < l.length) : cntK (l.take (i + 1)) k = cntK (l.take i) k + if l[i].kind = k then 1 else 0 := by
 unfold cntK
 rw [List.take_succ_eq_append_getElem h, List.filter_append, List.length_append]
 congr 1
 by_cases e : l[i].kind = k <;> simp [e]
theorem cnt_le (l : List Wd) (k : Int) (i : Nat) : cntK (l.take i) k ≤ cntK l k := by
 unfold cntK
 exact ((List.take_sublist i l).filter _).length_le
/-- Votes of the one node in round 0, all for v. -/
structure Vots (l : List Wd) (v : Ky) : Prop where
 all : ∀ w ∈ l, w.from' = 1 ∧ w.round = 0 ∧ w.value = v
 len : l.length ≤ 100
theorem Vots.at {l : List Wd} {v : Ky} (h : Vots l v) {i : Nat} (hi : i < l.length) : l[i].from' = 1 ∧ l[i].round = 0 ∧ l[i].value = v := h.all _ (List.getElem_mem hi)
attribute [local irreducible] J JL QOp JOp seqQ blockQ loopQ retQ slc cel hex star pur stars Does RV Ent pAt scopeQ
attribute [local irreducible] votA
theorem vput_ok (E : World) (p : Nat) (l : List Wd) (k : Int) (v : Ky) (hk : k = 2 ∨ k = 3) (hv : v.length ≤ 4096) (hl : ∀ w ∈ l, w.kind ≠ k) (hn : l.length ≤ 100) : Does Tryz.prog E 121 [.pointer (some ⟨p, 0, none⟩), .agg (wdV (vote0 k v)).toArray] [votA p l] fun r L => r = .bool true ∧ L = [votA p (l ++ [vote0 k v])] := by
 refine Does.vot fun S => ?_
 refine Does.post (K := fun r L => ∃ S' : SV, r = .bool true ∧ L = [votC p S'.v, slc tWd true S' (l ++ [vote0 k v])]) (pre := [votC p S.v, slc tWd true S l]) ?_ (fun F => Ent.refl _) (by rintro r L ⟨S', hr, rfl⟩; exact ⟨_, ⟨hr, rfl⟩, fun F => Ent.vot⟩)
 refine Does.of Tryz.func121 rfl Tryz.ntmps121 rfl rfl fun F => ?_
 refine J.norm ?_
 refine Sr ?_
 refine L_o rfl rfl rfl (O_box rfl fun b3 => ?_)
 refine Lq (Q_assign rfl) ?_
 refine Ln ?_
 refine J_seq ?_
 refine Sr ?_
 refine Lq (Q_move rfl) ?_
 refine Lq ((Q_peql rfl rfl).as (v' := .bool false) rfl) ?_
 refine Lq (Q_move rfl) ?_
 refine Lq (Q_move rfl) ?_
 refine Lq (Q_ldA 0 rfl rfl rfl) ?_
 refine L_o rfl rfl rfl (O_call [1] [0,2,3] (vmay_ok E p S.v k v hk hv) rfl rfl ?_)
 rintro _ _ ⟨rfl, rfl⟩
 refine JL.norm ?_
 refine Lq ((Q_not rfl).as (v' := .bool false) rfl) ?_
 refine Lq (Q_pickF rfl rfl) ?_
 refine Ln ?_
 refine J_condF rfl ?_
 refine J_skip ?_
 refine seqQ_normal ?_
 refine J_seq ?_
 refine Sr ?_
 refine Lq (Q_move rfl) ?_
 refine Lq (Q_nilCheck rfl) ?_
 refine Lq (Q_fa0 rfl) ?_
 refine Lq (Q_ld 0 rfl rfl rfl rfl) ?_
 refine Lq (Q_lenAt 2 rfl rfl) ?_
 refine Lq (Q_move rfl) ?_
 refine Ln ?_
 refine J_block ?_
 refine J_loop (fun i : Nat => i ≤ l.length) (fun i => [(0, .pointer (some ⟨p, 0, none⟩)), (3, .pointer (some ⟨b3, 0, none⟩)), (18, S.v), (19, .int .i64 (l.length : Int)), (20, .int .i64 (i : Int))]) (fun _ => [votC p S.v, cel b3 (wdV (vote0 k v)) 59, slc tWd true S l, F]) (fun i => l.length - i) 0 (Nat.zero_le _) ⟨rfl, rfl, rfl, rfl, rfl, trivial⟩ (Ent.refl _) ?_
 intro i hi
 refine Sr ?_
 refine Lq (Q_lss rfl rfl) ?_
 refine Ln ?_
 refine J_seq ?_
 refine J_condD rfl (fun h2 => ?_) (fun h2 => ?_)
 ·have hlt : i < l.length := by omega
  have hne := hl l[i] (List.getElem_mem hlt)
  refine J_skip ?_
  refine seqQ_normal ?_
  refine J_seq ?_
  refine J_block ?_
  refine Sr ?_
  refine Lq (Q_ixAt 2 i rfl rfl rfl rfl hlt rfl) ?_
  refine Lq (Q_ldEAAt 2 i 0 (vs := wdV l[i]) rfl rfl rfl rfl hlt (by decide) rfl) ?_
  refine L_o rfl rfl rfl (O_alloc fun b6 => ?_)
  refine L_s rfl rfl (O_stW 0 rfl rfl rfl rfl ?_)
  refine JL.norm ?_
  refine Ln ?_
  refine Sr ?_
  refine Lq (Q_fa0 rfl) ?_
  refine Lq (Q_ld 0 rfl rfl rfl rfl) ?_
  refine Lq (Q_fa0 rfl) ?_
  refine Lq (Q_ld 2 rfl rfl rfl rfl) ?_
  refine Lq ((Q_eql rfl rfl).as (v' := .bool false) (congrArg Value.bool (decide_eq_false hne))) ?_
  refine Lq (Q_move rfl) ?_
  refine L_n rfl rfl rfl ?_
  refine L_n rfl rfl rfl ?_
  refine L_n rfl rfl rfl ?_
  refine L_n rfl rfl rfl ?_
  refine L_n rfl rfl rfl ?_
  refine Lq (Q_pickF rfl rfl) ?_
  refine Lq (Q_move rfl) ?_
  refine L_n rfl rfl rfl ?_
  refine L_n rfl rfl rfl ?_
  refine L_n rfl rfl rfl ?_
  refine L_n rfl rfl rfl ?_
  refine L_n rfl rfl rfl ?_
  refine Lq (Q_pickF rfl rfl) ?_
  refine Ln ?_
  refine J_condF rfl ?_
  refine J_skip ?_
  refine blockQ_normal ?_
  refine seqQ_normal ?_
  refine J_region ?_
  refine Lq (Q_add rfl rfl (by first | exact IntWalk.i64_in _ (by omega) | exact IntWalk.u8_in _ (by omega) | exact IntWalk.u32_in _ (by omega) | exact IntWalk.u64_in _ (by omega) | rfl)) ?_
  refine Lq (Q_move rfl) ?_
  refine JL_nil ?_
  exact loopQ_normal (i + 1) hlt (by show l.length - (i + 1) < l.length - i; omega) ⟨rfl, rfl, rfl, rfl, rfl, trivial⟩ (Ent.re [1,2,3,4] rfl)
 ·refine J_exit ?_
  refine seqQ_exit ?_
  refine loopQ_exit ?_
  refine blockQ_hit ?_
  refine seqQ_normal ?_
  refine J_seq ?_
  refine DH [0,1] [0,1,2,3,4,5,8,9] (.quiet 0 (.quiet 1 (.quiet 2 (.quiet 3 (.quiet 4 (.quiet 5 (.loud 6 (.loud 7 (.quiet 8 (.quiet 9 (.loud 10 .done))))))))))) Tryz.mixed ?_
  refine Sq (Ent.re [0,1] rfl) rfl (Q_move rfl) ?_
  refine Sq (Ent.re [0,1] rfl) rfl (Q_move rfl) ?_
  refine Sq (Ent.re [0,1] rfl) rfl (Q_nilCheck rfl) ?_
  refine Sq (Ent.re [0,1] rfl) rfl (Q_fa0 rfl) ?_
  refine Sq (Ent.re [0,1] rfl) rfl (Q_ld 0 rfl rfl rfl rfl) ?_
  refine Sq (Ent.re [0,1] rfl) rfl (Q_ldA 1 rfl rfl rfl) ?_
  refine S_o rfl rfl rfl rfl (O_litP (τ := tWd) (m := 1) (sz := 5) [vote0 k v] rfl rfl rfl rfl rfl rfl (by decide) (fun U => ⟨_, fun _ => ⟨Ent.reN [1,2] rfl, Ent.refl _⟩, ?_⟩))
  refine JS.norm ?_
  refine S_o rfl rfl rfl rfl (O_app (τ := tWd) 3 rfl (fun w h => h.rd 0 rfl) rfl rfl rfl rfl (by simp only [List.length_singleton]; omega) (by decide) (fun S2 => ⟨_, fun _ => ⟨Ent.reN [1,2] rfl, Ent.refl _⟩, ?_⟩))
  refine JS.norm ?_
  refine Sq (Ent.re [1,2] rfl) rfl (Q_nilCheck rfl) ?_
  refine Sq (Ent.re [1,2] rfl) rfl (Q_fa0 rfl) ?_
  refine S_s rfl rfl rfl (O_st1 1 rfl rfl rfl rfl rfl ⟨[], free_no (by kernel_rfl), ?_⟩)
  refine JS.norm ?_
  refine S_nil ?_
  refine seqQ_normal ?_
  refine Sr ?_
  refine Lq (Q_assign rfl) ?_
  refine Ln ?_
  refine J_ret ?_
  exact retQ_ret _ [votC p S2.v, slc tWd true S2 (l ++ [vote0 k v])] (.cons (RV_tmp rfl) .nil) ⟨S2, rfl, rfl⟩ (Ent.re [1,3,4] rfl)
theorem vtally_ok (E : World) (p : Nat) (X : Value) (S : SV) (hX : X = S.v) (l : List Wd) (k : Int) (v : Ky) (hV : Vots l v) (hc : cntK l k ≤ 1) : Does Tryz.prog E 140 [.pointer (some ⟨p, 0, none⟩), .int .i64 k, .int .i64 0, str v] [votC p X, slc tWd true S l] fun r L => r = .complex .f64 (fl01 (cntK l k)) 0 ∧ L = [votC p X, slc tWd true S l] := by
 subst hX
 have hn := hV.len
 refine Does.of Tryz.func140 rfl Tryz.ntmps140 rfl rfl fun F => ?_
 refine J.norm ?_
 refine Sr ?_
 refine Lq (Q_assign rfl) ?_
 refine Ln ?_
 refine Sr ?_
 refine Lq (Q_assign rfl) ?_
 refine Ln ?_
 refine J_seq ?_
 refine Sr ?_
 refine Lq (Q_move rfl) ?_
 refine Lq ((Q_peql rfl rfl).as (v' := .bool false) rfl) ?_
 refine Ln ?_
 refine J_condF rfl ?_
 refine J_skip ?_
 refine seqQ_normal ?_
 refine J_seq ?_
 refine Sr ?_
 refine Lq (Q_move rfl) ?_
 refine Lq (Q_nilCheck rfl) ?_
 refine Lq (Q_fa0 rfl) ?_
 refine Lq (Q_ld 0 rfl rfl rfl rfl) ?_
 refine Lq (Q_lenAt 1 rfl rfl) ?_
 refine Lq (Q_move rfl) ?_
 refine Ln ?_
 refine J_block ?_
 refine J_loop (fun i : Nat => i ≤ l.length) (fun i => [(1, .int .i64 k), (2, .int .i64 0), (3, str v), (9, .complex .f64 (fl01 (cntK (l.take i) k)) 0), (18, S.v), (19, .int .i64 (l.length : Int)), (20, .int .i64 (i : Int))]) (fun _ => [votC p S.v, slc tWd true S l, F]) (fun i => l.length - i) 0 (Nat.zero_le _) ⟨rfl, rfl, rfl, rfl, rfl, rfl, rfl, trivial⟩ (Ent.refl _) ?_
 intro i hi
 refine Sr ?_
 refine Lq (Q_lss rfl rfl) ?_
 refine Ln ?_
 refine J_seq ?_
 refine J_condD rfl (fun h2 => ?_) (fun h2 => ?_)
 ·have hlt : i < l.length := by omega
  obtain ⟨h3, h4, h5⟩ := hV.at hlt
  have ht := cnt_take (k := k) hlt
  have hle := cnt_le l k (i + 1)
  by_cases e : l[i].kind = k
  ·rw [if_pos e] at ht
   have e0 : cntK (l.take i) k = 0 := by omega
   have e1 : cntK (l.take (i + 1)) k = 1 := by omega
   rw [e0]
   refine J_skip ?_
   refine seqQ_normal ?_
   refine J_seq ?_
   refine J_block ?_
   refine Sr ?_
   refine Lq (Q_ixAt 1 i rfl rfl rfl rfl hlt rfl) ?_
   refine Lq (Q_ldEAAt 1 i 0 (vs := wdV l[i]) rfl rfl rfl rfl hlt (by decide) rfl) ?_
   refine L_o rfl rfl rfl (O_alloc fun b11 => ?_)
   refine L_s rfl rfl (O_stW 0 rfl rfl rfl rfl ?_)
   refine JL.norm ?_
   refine Ln ?_
   refine J_block ?_
   refine Sr ?_
   refine Lq (Q_fa0 rfl) ?_
   refine Lq (Q_ld 0 rfl rfl rfl rfl) ?_
   refine Lq (Q_move rfl) ?_
   refine Lq ((Q_neq rfl rfl).as (v' := .bool false) (congrArg Value.bool (decide_eq_false (by simp [e])))) ?_
   refine Lq (Q_move rfl) ?_
   refine Lq (Q_fa0 rfl) ?_
   refine Lq (Q_ld 0 rfl rfl rfl rfl) ?_
   refine Lq (Q_move rfl) ?_
   refine Lq ((Q_neq rfl rfl).as (v' := .bool false) (congrArg Value.bool (decide_eq_false (by simp [h4])))) ?_
   refine Lq (Q_pickF rfl rfl) ?_
   refine Lq (Q_assign rfl) ?_
   refine Ln ?_
   refine J_condF rfl ?_
   refine Sr ?_
   refine Lq (Q_fa0 rfl) ?_
   refine Lq (Q_ld 0 rfl rfl rfl rfl) ?_
   refine Lq (Q_move rfl) ?_
   refine Lq ((Q_seql rfl rfl).as (v' := .bool true) (congrArg Value.bool (decide_eq_true h5))) ?_
   refine Lq (Q_assign rfl) ?_
   refine Ln ?_
   refine J_condT rfl ?_
   refine J_region ?_
   refine Lq (Q_move rfl) ?_
   refine Lq (Q_cadd cadd_1 rfl rfl) ?_
   refine Lq (Q_assign rfl) ?_
   refine JL_nil ?_
   refine blockQ_normal ?_
   refine blockQ_normal ?_
   refine seqQ_normal ?_
   refine J_region ?_
   refine Lq (Q_add rfl rfl (by first | exact IntWalk.i64_in _ (by omega) | exact IntWalk.u8_in _ (by omega) | exact IntWalk.u32_in _ (by omega) | exact IntWalk.u64_in _ (by omega) | rfl)) ?_
   refine Lq (Q_move rfl) ?_
   refine JL_nil ?_
   exact loopQ_normal (i + 1) hlt (by show l.length - (i + 1) < l.length - i; omega) ⟨rfl, rfl, rfl, by rw [e1]; rfl, rfl, rfl, rfl, trivial⟩ (Ent.re [1,2,3] rfl)
  ·rw [if_neg e, Nat.add_zero] at ht
   refine J_skip ?_
   refine seqQ_normal ?_
   refine J_seq ?_
   refine J_block ?_
   refine Sr ?_
   refine Lq (Q_ixAt 1 i rfl rfl rfl rfl hlt rfl) ?_
   refine Lq (Q_ldEAAt 1 i 0 (vs := wdV l[i]) rfl rfl rfl rfl hlt (by decide) rfl) ?_
   refine L_o rfl rfl rfl (O_alloc fun b11 => ?_)
   refine L_s rfl rfl (O_stW 0 rfl rfl rfl rfl ?_)
   refine JL.norm ?_
   refine Ln ?_
   refine J_block ?_
   refine Sr ?_
   refine Lq (Q_fa0 rfl) ?_
   refine Lq (Q_ld 0 rfl rfl rfl rfl) ?_
   refine Lq (Q_move rfl) ?_
   refine Lq ((Q_neq rfl rfl).as (v' := .bool true) (congrArg Value.bool (decide_eq_true e))) ?_
   refine Lq (Q_move rfl) ?_
   refine L_n rfl rfl rfl ?_
   refine L_n rfl rfl rfl ?_
   refine L_n rfl rfl rfl ?_
   refine L_n rfl rfl rfl ?_
   refine Lq (Q_pickT rfl rfl) ?_
   refine Lq (Q_assign rfl) ?_
   refine Ln ?_
   refine J_condT rfl ?_
   refine J_skip ?_
   refine blockQ_normal ?_
   refine blockQ_normal ?_
   refine seqQ_normal ?_
   refine J_region ?_
   refine Lq (Q_add rfl rfl (by first | exact IntWalk.i64_in _ (by omega) | exact IntWalk.u8_in _ (by omega) | exact IntWalk.u32_in _ (by omega) | exact IntWalk.u64_in _ (by omega) | rfl)) ?_
   refine Lq (Q_move rfl) ?_
   refine JL_nil ?_
   exact loopQ_normal (i + 1) hlt (by show l.length - (i + 1) < l.length - i; omega) ⟨rfl, rfl, rfl, by rw [ht]; rfl, rfl, rfl, rfl, trivial⟩ (Ent.re [1,2,3] rfl)
 ·obtain rfl : i = l.length := by omega
  rw [List.take_length]
  refine J_exit ?_
  refine seqQ_exit ?_
  refine loopQ_exit ?_
  refine blockQ_hit ?_
  refine seqQ_normal ?_
  refine Sr ?_
  refine Lq (Q_move rfl) ?_
  refine Lq (Q_assign rfl) ?_
  refine Ln ?_
  refine J_ret ?_
  exact retQ_ret _ [votC p S.v, slc tWd true S l] (.cons (RV_tmp rfl) .nil) ⟨rfl, rfl⟩ (Ent.refl _)
theorem vcount_ok (E : World) (p : Nat) (S : SV) (l : List Wd) (k : Int) (v : Ky) (hV : Vots l v) (hc : cntK l k ≤ 1) : Does Tryz.prog E 137 [.pointer (some ⟨p, 0, none⟩), .int .i64 k, .int .i64 0, str v] [votC p S.v, slc tWd true S l] fun r L => r = .int .i64 (cntK l k : Int) ∧ L = [votC p S.v, slc tWd true S l] := by
 have ht := vtally_ok E p S.v S rfl l k v hV hc
 have hf : ∀ (P : Program) (w : World), (Conv.floatToInt .f64 (fl01 (cntK l k)) .i64).run P w = .ok (.int .i64 (cntK l k : Int)) w := by
  rcases Nat.lt_or_ge (cntK l k) 1 with h | h
  ·have e : cntK l k = 0 := by omega
   rw [e]; exact f2i_0
  ·have e : cntK l k = 1 := by omega
   rw [e]; exact f2i_1
 refine Does.of Tryz.func137 rfl Tryz.ntmps137 rfl rfl fun F => ?_
 refine J.norm ?_
 refine Sr ?_
 refine Lq (Q_assign rfl) ?_
 refine Ln ?_
 refine Sr ?_
 refine Lq (Q_move rfl) ?_
 refine Lq (Q_move rfl) ?_
 refine Lq (Q_move rfl) ?_
 refine Lq (Q_move rfl) ?_
 refine L_o rfl rfl rfl (O_call [0,1] [2] ht rfl rfl ?_)
 rintro _ _ ⟨rfl, rfl⟩
 refine JL.norm ?_
 refine Lq (Q_real rfl) ?_
 refine Lq (Q_f2i hf rfl) ?_
 refine Lq (Q_assign rfl) ?_
 refine Ln ?_
 refine J_ret ?_
 exact retQ_ret _ [votC p S.v, slc tWd true S l] (.cons (RV_tmp rfl) .nil) ⟨rfl, rfl⟩ (Ent.refl _)
end Go.Proofs
/- The value of a quorum; no round lies ahead. -/
set_option autoImplicit false
namespace Go.Proofs
open Go.SL Go.Proofs.Bt
theorem cnt_pos {l : List Wd} {k : Int} {i : Nat} (h : i < l.length) (e : l[i].kind = k) : 1 ≤ cntK l k := by
 have h1 := cnt_take (k := k) h
 have h2 := cnt_le l k (i + 1)
 rw [if_pos e] at h1
 omega
attribute [local irreducible] J JL QOp JOp seqQ blockQ loopQ retQ slc cel hex star pur stars Does RV Ent pAt scopeQ
attribute [local irreducible] votA
theorem vmost_ok (E : World) (p : Nat) (l : List Wd) (k : Int) (v : Ky) (hV : Vots l v) (hc : cntK l k ≤ 1) : Does Tryz.prog E 134 [.pointer (some ⟨p, 0, none⟩), .int .i64 k, .int .i64 0] [votA p l] fun r L => r = .tuple #[str (if cntK l k = 0 then [] else v), .bool (decide (cntK l k ≠ 0))] ∧ L = [votA p l] := by
 have hn := hV.len
 refine Does.vot fun S => ?_
 refine Does.post (K := fun r L => r = .tuple #[str (if cntK l k = 0 then [] else v), .bool (decide (cntK l k ≠ 0))] ∧ L = [votC p S.v, slc tWd true S l]) (pre := [votC p S.v, slc tWd true S l]) ?_ (fun F => Ent.refl _) (by rintro r L ⟨hr, rfl⟩; exact ⟨_, ⟨hr, rfl⟩, fun F => Ent.vot⟩)
 have hcnt := vcount_ok E p S l k v hV hc
 refine Does.of Tryz.func134 rfl Tryz.ntmps134 rfl rfl fun F => ?_
 refine J.norm ?_
 refine Sr ?_
 refine Lq (Q_assign rfl) ?_
 refine Lq (Q_assign rfl) ?_
 refine Ln ?_
 refine J_seq ?_
 refine Sr ?_
 refine Lq (Q_move rfl) ?_
 refine Lq ((Q_peql rfl rfl).as (v' := .bool false) rfl) ?_
 refine Ln ?_
 refine J_condF rfl ?_
 refine J_skip ?_
 refine seqQ_normal ?_
 refine J_seq ?_
 refine Sr ?_
 refine Lq (Q_move rfl) ?_
 refine Lq (Q_nilCheck rfl) ?_
 refine Lq (Q_fa0 rfl) ?_
 refine Lq (Q_ld 0 rfl rfl rfl rfl) ?_
 refine Lq (Q_lenAt 1 rfl rfl) ?_
 refine Lq (Q_move rfl) ?_
 refine Ln ?_
 refine J_block ?_
 refine J_loop (fun i : Nat => i ≤ l.length ∧ cntK (l.take i) k = 0) (fun i => [(0, .pointer (some ⟨p, 0, none⟩)), (1, .int .i64 k), (2, .int .i64 0), (15, S.v), (16, .int .i64 (l.length : Int)), (17, .int .i64 (i : Int))]) (fun _ => [votC p S.v, slc tWd true S l, F]) (fun i => l.length - i) 0 ⟨Nat.zero_le _, rfl⟩ ⟨rfl, rfl, rfl, rfl, rfl, rfl, trivial⟩ (Ent.refl _) ?_
 rintro i ⟨hi, hz⟩
 refine Sr ?_
 refine Lq (Q_lss rfl rfl) ?_
 refine Ln ?_
 refine J_seq ?_
 refine J_condD rfl (fun h2 => ?_) (fun h2 => ?_)
 ·have hlt : i < l.length := by omega
  obtain ⟨h3, h4, h5⟩ := hV.at hlt
  have ht := cnt_take (k := k) hlt
  refine J_skip ?_
  refine seqQ_normal ?_
  refine J_seq ?_
  refine J_block ?_
  refine Sr ?_
  refine Lq (Q_ixAt 1 i rfl rfl rfl rfl hlt rfl) ?_
  refine Lq (Q_ldEAAt 1 i 0 (vs := wdV l[i]) rfl rfl rfl rfl hlt (by decide) rfl) ?_
  refine L_o rfl rfl rfl (O_alloc fun b9 => ?_)
  refine L_s rfl rfl (O_stW 0 rfl rfl rfl rfl ?_)
  refine JL.norm ?_
  refine Ln ?_
  refine J_seq ?_
  by_cases e : l[i].kind = k
  ·have hp := cnt_pos hlt e
   have h1 : cntK l k = 1 := by omega
   have hw : wdV l[i] = [.int .i64 l[i].kind, .int .i64 l[i].from', .int .i64 l[i].round, .int .i64 l[i].valid, str v] := by unfold wdV; rw [h5]
   rw [hw]
   rw [h1] at hcnt ⊢
   refine DH [0,1] [0,1,2,3,4,5,6,7,8,9,10,11,12,13,14,15,17,18,19,20,21,22,23,24,26,27] (.quiet 0 (.quiet 1 (.quiet 2 (.quiet 3 (.quiet 4 (.quiet 5 (.quiet 6 (.quiet 7 (.quiet 8 (.quiet 9 (.quiet 10 (.quiet 11 (.quiet 12 (.quiet 13 (.quiet 14 (.quiet 15 (.quiet 17 (.quiet 18 (.quiet 19 (.quiet 20 (.quiet 21 (.quiet 22 (.quiet 23 (.quiet 24 (.loud 16 (.loud 25 (.quiet 26 (.quiet 27 .done)))))))))))))))))))))))))))) Tryz.mixed ?_
   refine Sq (Ent.re [0,1] rfl) rfl (Q_fa0 rfl) ?_
   refine Sq (Ent.re [0,1] rfl) rfl (Q_ld 0 rfl rfl rfl rfl) ?_
   refine Sq (Ent.re [0,1] rfl) rfl (Q_move rfl) ?_
   refine Sq (Ent.re [0,1] rfl) rfl ((Q_eql rfl rfl).as (v' := .bool true) (congrArg Value.bool (decide_eq_true e))) ?_
   refine Sq (Ent.re [0,1] rfl) rfl (Q_move rfl) ?_
   refine Sq (Ent.re [0,1] rfl) rfl (Q_fa0 rfl) ?_
   refine Sq (Ent.re [0,1] rfl) rfl (Q_ld 0 rfl rfl rfl rfl) ?_
   refine Sq (Ent.re [0,1] rfl) rfl (Q_move rfl) ?_
   refine Sq (Ent.re [0,1] rfl) rfl ((Q_eql rfl rfl).as (v' := .bool true) (congrArg Value.bool (decide_eq_true h4))) ?_
   refine Sq (Ent.re [0,1] rfl) rfl (Q_pickT rfl rfl) ?_
   refine Sq (Ent.re [0,1] rfl) rfl (Q_move rfl) ?_
   refine Sq (Ent.re [0,1] rfl) rfl (Q_move rfl) ?_
   refine Sq (Ent.re [0,1] rfl) rfl (Q_move rfl) ?_
   refine Sq (Ent.re [0,1] rfl) rfl (Q_move rfl) ?_
   refine Sq (Ent.re [0,1] rfl) rfl (Q_fa0 rfl) ?_
   refine Sq (Ent.re [0,1] rfl) rfl (Q_ld 0 rfl rfl rfl rfl) ?_
   refine Sq (Ent.re [0,1] rfl) rfl (Q_move rfl) ?_
   refine Sq (Ent.re [0,1] rfl) rfl (Q_nilCheck rfl) ?_
   refine Sq (Ent.re [0,1] rfl) rfl (Q_fa0 rfl) ?_
   refine Sq (Ent.re [0,1] rfl) rfl (Q_ld 1 rfl rfl rfl rfl) ?_
   refine Sq (Ent.re [0,1] rfl) rfl (Q_move rfl) ?_
   refine Sq (Ent.re [0,1] rfl) rfl (Q_nilCheck rfl) ?_
   refine Sq (Ent.re [0,1] rfl) rfl (Q_fa0 rfl) ?_
   refine Sq (Ent.re [0,1] rfl) rfl (Q_ld 1 rfl rfl rfl rfl) ?_
   refine S_o rfl rfl rfl rfl (O_call [1,2] [0,3] hcnt rfl rfl ?_)
   (rintro _ _ ⟨rfl, rfl⟩; refine ⟨_, fun _ => ⟨Ent.reN [2,0] rfl, Ent.refl _⟩, ?_⟩)
   refine JS.norm ?_
   refine S_o rfl rfl rfl rfl (O_call [] [0,1,2,3] (quorum_ok E) rfl rfl ?_)
   (rintro _ _ ⟨rfl, rfl⟩; refine ⟨_, fun _ => ⟨Ent.reN [2,0] rfl, Ent.refl _⟩, ?_⟩)
   refine JS.norm ?_
   refine Sq (Ent.re [2,0] rfl) rfl ((Q_geq rfl rfl).as (v' := .bool true) rfl) ?_
   refine Sq (Ent.re [2,0] rfl) rfl (Q_pickT rfl rfl) ?_
   refine S_nil ?_
   refine seqQ_normal ?_
   refine J_condT rfl ?_
   refine Sr ?_
   refine Lq (Q_fa0 rfl) ?_
   refine Lq (Q_ld 2 rfl rfl rfl rfl) ?_
   refine Lq (Q_assign rfl) ?_
   refine Lq (Q_assign rfl) ?_
   refine Ln ?_
   refine J_ret ?_
   refine blockQ_ret ?_
   refine seqQ_ret ?_
   refine loopQ_ret ?_
   refine blockQ_ret ?_
   refine seqQ_ret ?_
   exact retQ_ret _ [votC p S.v, slc tWd true S l] (.cons (RV_tmp rfl) (.cons (RV_tmp rfl) .nil)) ⟨rfl, rfl⟩ (Ent.re [0,1,3] rfl)
  ·rw [if_neg e, hz] at ht
   refine DH [0,1] [0,1,2,3,4,5,6,7,8,9,10,11,12,13,14,15,17,18,19,20,21,22,23,24,26,27] (.quiet 0 (.quiet 1 (.quiet 2 (.quiet 3 (.quiet 4 (.quiet 5 (.quiet 6 (.quiet 7 (.quiet 8 (.quiet 9 (.quiet 10 (.quiet 11 (.quiet 12 (.quiet 13 (.quiet 14 (.quiet 15 (.quiet 17 (.quiet 18 (.quiet 19 (.quiet 20 (.quiet 21 (.quiet 22 (.quiet 23 (.quiet 24 (.loud 16 (.loud 25 (.quiet 26 (.quiet 27 .done)))))))))))))))))))))))))))) Tryz.mixed ?_
   refine Sq (Ent.re [0,1] rfl) rfl (Q_fa0 rfl) ?_
   refine Sq (Ent.re [0,1] rfl) rfl (Q_ld 0 rfl rfl rfl rfl) ?_
   refine Sq (Ent.re [0,1] rfl) rfl (Q_move rfl) ?_
   refine Sq (Ent.re [0,1] rfl) rfl ((Q_eql rfl rfl).as (v' := .bool false) (congrArg Value.bool (decide_eq_false e))) ?_
   refine Sq (Ent.re [0,1] rfl) rfl (Q_move rfl) ?_
   refine S_n (Ent.re [0,1] rfl) rfl rfl rfl rfl ?_
   refine S_n (Ent.re [0,1] rfl) rfl rfl rfl rfl ?_
   refine S_n (Ent.re [0,1] rfl) rfl rfl rfl rfl ?_
   refine S_n (Ent.re [0,1] rfl) rfl rfl rfl rfl ?_
   refine Sq (Ent.re [0,1] rfl) rfl (Q_pickF rfl rfl) ?_
   refine Sq (Ent.re [0,1] rfl) rfl (Q_move rfl) ?_
   refine S_n (Ent.re [0,1] rfl) rfl rfl rfl rfl ?_
   refine S_n (Ent.re [0,1] rfl) rfl rfl rfl rfl ?_
   refine S_n (Ent.re [0,1] rfl) rfl rfl rfl rfl ?_
   refine S_n (Ent.re [0,1] rfl) rfl rfl rfl rfl ?_
   refine S_n (Ent.re [0,1] rfl) rfl rfl rfl rfl ?_
   refine S_n (Ent.re [0,1] rfl) rfl rfl rfl rfl ?_
   refine S_n (Ent.re [0,1] rfl) rfl rfl rfl rfl ?_
   refine S_n (Ent.re [0,1] rfl) rfl rfl rfl rfl ?_
   refine S_n (Ent.re [0,1] rfl) rfl rfl rfl rfl ?_
   refine S_n (Ent.re [0,1] rfl) rfl rfl rfl rfl ?_
   refine S_n (Ent.re [0,1] rfl) rfl rfl rfl rfl ?_
   refine S_n (Ent.re [0,1] rfl) rfl rfl rfl rfl ?_
   refine S_n (Ent.re [0,1] rfl) rfl rfl rfl rfl ?_
   refine S_no rfl rfl rfl rfl (fun _ => (Ent.re [0,1] rfl)) ?_
   refine S_no rfl rfl rfl rfl (fun _ => (Ent.re [0,1] rfl)) ?_
   refine S_n (Ent.re [0,1] rfl) rfl rfl rfl rfl ?_
   refine Sq (Ent.re [0,1] rfl) rfl (Q_pickF rfl rfl) ?_
   refine S_nil ?_
   refine seqQ_normal ?_
   refine J_condF rfl ?_
   refine J_skip ?_
   refine blockQ_normal ?_
   refine seqQ_normal ?_
   refine J_region ?_
   refine Lq (Q_add rfl rfl (by first | exact IntWalk.i64_in _ (by omega) | exact IntWalk.u8_in _ (by omega) | exact IntWalk.u32_in _ (by omega) | exact IntWalk.u64_in _ (by omega) | rfl)) ?_
   refine Lq (Q_move rfl) ?_
   refine JL_nil ?_
   exact loopQ_normal (i + 1) ⟨hlt, ht⟩ (by show l.length - (i + 1) < l.length - i; omega) ⟨rfl, rfl, rfl, rfl, rfl, rfl, trivial⟩ (Ent.re [1,2,3] rfl)
 ·obtain rfl : i = l.length := by omega
  rw [List.take_length] at hz
  rw [hz]
  refine J_exit ?_
  refine seqQ_exit ?_
  refine loopQ_exit ?_
  refine blockQ_hit ?_
  refine seqQ_normal ?_
  refine Sr ?_
  refine Lq (Q_assign rfl) ?_
  refine Lq (Q_assign rfl) ?_
  refine Ln ?_
  refine J_ret ?_
  exact retQ_ret _ [votC p S.v, slc tWd true S l] (.cons (RV_tmp rfl) (.cons (RV_tmp rfl) .nil)) ⟨rfl, rfl⟩ (Ent.refl _)
end Go.Proofs
