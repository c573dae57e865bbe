/- Part 13 of the texts below the row: Ag3, Ag4, Ag5, CrcP, SnapP, WireP. -/
import Derived.Test.YtgifbeecmidciaaGreatM12
/- An agreement of one node: its rules. -/
set_option autoImplicit false
namespace Go.Proofs
open Go.SL Go.Proofs.Bt
abbrev zWd : Wd := ⟨0, 0, 0, 0, []⟩
theorem arr_flat (w0 : Wd) : wdV w0 ++ zer63 = tWd.flat (w0 :: List.replicate 63 zWd) := by kernel_rfl
theorem arr_at (w0 : Wd) (i : Nat) (h : i < 64) : (wdV w0 ++ zer63).toArray.extract (i * 5) (i * 5 + 5) = (wdV (if i = 0 then w0 else zWd)).toArray := by
 rw [arr_flat]
 have hl : (w0 :: List.replicate 63 zWd).length = 64 := rfl
 have h1 := tWd.flat_at (w0 :: List.replicate 63 zWd) i (by rw [hl]; exact h)
 have h2 : (w0 :: List.replicate 63 zWd)[i]'(by rw [hl]; exact h) = if i = 0 then w0 else zWd := by
  cases i with
  | zero => rfl
  | succ i => rw [List.getElem_cons_succ, List.getElem_replicate, if_neg (by omega)]
 rw [h2] at h1
 have h3 : ((tWd.flat (w0 :: List.replicate 63 zWd)).drop (i * 5)).take 5 = wdV (if i = 0 then w0 else zWd) := h1
 rw [← h3]
 simp
attribute [local irreducible] J JL QOp JOp seqQ blockQ loopQ retQ slc cel hex star pur stars Does RV Ent pAt scopeQ
attribute [local irreducible] votA agL zer63 bz122
section
variable (E : World) (p pv b : Nat) (A : Ag) (l : List Wd) (v : Ky)
theorem adecideF_ok (m : Value) (hV : Vots l v) (hc : cntK l 3 ≤ 1) (h : A.w0.value = [] ∨ cntK l 3 = 0) : Does Tryz.prog E 122 [.pointer (some ⟨p, 0, none⟩)] [agC p A pv m, votA pv l] fun r L => r = .bool false ∧ L = [agC p A pv m, votA pv l] := by
 have hm := amost_ok E p pv A m l 3 v A.w0.value hV hc
 refine Does.of Tryz.func122 rfl Tryz.ntmps122 rfl rfl fun F => ?_
 refine J.norm ?_
 refine Sr ?_
 refine Lq (Q_assign rfl) ?_
 refine Ln ?_
 refine J_seq ?_
 refine Sr ?_
 refine Lq (Q_move rfl) ?_
 refine Lq (Q_nilCheck rfl) ?_
 refine Lq (Q_fa0 rfl) ?_
 refine Lq (Q_ldA 0 rfl rfl rfl) ?_
 refine Lq (Q_move rfl) ?_
 refine Ln ?_
 refine J_block ?_
 refine J_loop (fun i : Nat => i ≤ 64) (fun i => [(0, .pointer (some ⟨p, 0, none⟩)), (8, .agg (wdV A.w0 ++ zer63).toArray), (9, .int .i64 (i : Int))]) (fun _ => [agC p A pv m, votA pv l, F]) (fun i => 64 - i) 0 (by decide) ⟨rfl, rfl, rfl, trivial⟩ (Ent.refl _) ?_
 intro i hi
 refine Sr ?_
 refine Lq (Q_lss rfl rfl) ?_
 refine Ln ?_
 refine J_seq ?_
 refine J_condD rfl (fun h2 => ?_) (fun h2 => ?_)
 ·have hlt : i < 64 := by omega
  have ha := arr_at A.w0 i hlt
  refine J_skip ?_
  refine seqQ_normal ?_
  refine J_seq ?_
  refine J_block ?_
  refine Sr ?_
  refine Lq (Q_move rfl) ?_
  refine Lq (Q_aiA i (vs := (wdV (if i = 0 then A.w0 else zWd)).toArray) rfl rfl rfl hlt rfl ha) ?_
  refine L_o rfl rfl rfl (O_alloc fun b4 => ?_)
  refine Lq (Q_assign rfl) ?_
  refine L_s rfl rfl (O_stW 0 rfl rfl rfl rfl ?_)
  refine JL.norm ?_
  refine Ln ?_
  refine J_seq ?_
  by_cases e : (if i = 0 then A.w0 else zWd).value = []
  ·skip
   refine J_region ?_
   refine Lq (Q_fa0 rfl) ?_
   refine Lq (Q_ld 0 rfl rfl rfl rfl) ?_
   refine Lq ((Q_sneq rfl rfl).as (v' := .bool false) (congrArg Value.bool (decide_eq_false (by simp [e])))) ?_
   refine Lq (Q_move rfl) ?_
   refine L_n rfl rfl rfl ?_
   refine L_n rfl rfl rfl ?_
   refine L_n rfl rfl rfl ?_
   refine L_n rfl rfl rfl ?_
   refine L_n rfl rfl rfl ?_
   refine Lq (Q_pickF rfl rfl) ?_
   refine Ln ?_
   refine J_condF rfl ?_
   refine J_skip ?_
   refine blockQ_normal ?_
   refine seqQ_normal ?_
   refine J_region ?_
   refine Lq (Q_add rfl rfl (by first | exact IntWalk.i64_in _ (by omega) | exact IntWalk.u8_in _ (by omega) | exact IntWalk.u32_in _ (by omega) | exact IntWalk.u64_in _ (by omega) | rfl)) ?_
   refine Lq (Q_move rfl) ?_
   refine JL_nil ?_
   exact loopQ_normal (i + 1) (by show i + 1 ≤ 64; omega) (by show 64 - (i + 1) < 64 - i; omega) ⟨rfl, rfl, rfl, trivial⟩ (Ent.re [1,2,3] rfl)
  ·have e0 : i = 0 := by
    by_cases e0 : i = 0
    ·exact e0
    ·rw [if_neg e0] at e; exact absurd rfl e
   subst e0
   have h0 : cntK l 3 = 0 := h.resolve_left (by simpa using e)
   rw [show decide (cntK l 3 ≠ 0) = false by simp [h0]] at hm
   simp only [if_true] at e ⊢
   refine J_region ?_
   refine Lq (Q_fa0 rfl) ?_
   refine Lq (Q_ld 0 rfl rfl rfl rfl) ?_
   refine Lq ((Q_sneq rfl rfl).as (v' := .bool true) (congrArg Value.bool (decide_eq_true e))) ?_
   refine Lq (Q_move rfl) ?_
   refine Lq (Q_move rfl) ?_
   refine Lq (Q_move rfl) ?_
   refine Lq (Q_fa0 rfl) ?_
   refine Lq (Q_ld 0 rfl rfl rfl rfl) ?_
   refine L_o rfl rfl rfl (O_call [1,2] [0,3] hm rfl rfl ?_)
   rintro _ _ ⟨rfl, rfl⟩
   refine JL.norm ?_
   refine Lq (Q_pickT rfl rfl) ?_
   refine Ln ?_
   refine J_condF rfl ?_
   refine J_skip ?_
   refine blockQ_normal ?_
   refine seqQ_normal ?_
   refine J_region ?_
   refine Lq (Q_add rfl rfl (by first | exact IntWalk.i64_in _ (by omega) | exact IntWalk.u8_in _ (by omega) | exact IntWalk.u32_in _ (by omega) | exact IntWalk.u64_in _ (by omega) | rfl)) ?_
   refine Lq (Q_move rfl) ?_
   refine JL_nil ?_
   exact loopQ_normal 1 (by decide) (by decide) ⟨rfl, rfl, rfl, trivial⟩ (Ent.re [0,1,3] rfl)
 ·refine J_exit ?_
  refine seqQ_exit ?_
  refine loopQ_exit ?_
  refine blockQ_hit ?_
  refine seqQ_normal ?_
  refine Sr ?_
  refine Lq (Q_assign rfl) ?_
  refine Ln ?_
  refine J_ret ?_
  exact retQ_ret _ [agC p A pv m, votA pv l] (.cons (RV_tmp rfl) .nil) ⟨rfl, rfl⟩ (Ent.refl _)
theorem adecideT_ok (m : Value) (hV : Vots l v) (hc : cntK l 3 ≤ 1) (h0 : v ≠ []) (hw : A.w0.value = v) (h : cntK l 3 ≠ 0) : Does Tryz.prog E 122 [.pointer (some ⟨p, 0, none⟩)] [agC p A pv m, votA pv l] fun r L => r = .bool true ∧ L = [agC p ((A.sDone true).sDec v) pv m, votA pv l] := by
 have hm := amost_ok E p pv A m l 3 v v hV hc
 rw [show decide (cntK l 3 ≠ 0) = true by simp [h], show decide (v = v) = true by simp] at hm
 obtain ⟨ah, own, round, step, lv, lr, vv, vr, ⟨w1, w2, w3, w4, w5⟩, seen, done, dec⟩ := A
 dsimp only at hw
 subst hw
 refine Does.of Tryz.func122 rfl Tryz.ntmps122 rfl rfl fun F => ?_
 refine J.norm ?_
 refine Sr ?_
 refine Lq (Q_assign rfl) ?_
 refine Ln ?_
 refine J_seq ?_
 refine Sr ?_
 refine Lq (Q_move rfl) ?_
 refine Lq (Q_nilCheck rfl) ?_
 refine Lq (Q_fa0 rfl) ?_
 refine Lq (Q_ldA 0 rfl rfl rfl) ?_
 refine Lq (Q_move rfl) ?_
 refine Ln ?_
 refine J_block ?_
 refine J_loop (fun i : Nat => i = 0) (fun i => [(0, .pointer (some ⟨p, 0, none⟩)), (8, .agg (wdV ⟨w1, w2, w3, w4, w5⟩ ++ zer63).toArray), (9, .int .i64 (i : Int))]) (fun _ => [agC p ⟨ah, own, round, step, lv, lr, vv, vr, ⟨w1, w2, w3, w4, w5⟩, seen, done, dec⟩ pv m, votA pv l, F]) (fun i => 64 - i) 0 rfl ⟨rfl, rfl, rfl, trivial⟩ (Ent.refl _) ?_
 rintro i rfl
 have ha := arr_at ⟨w1, w2, w3, w4, w5⟩ 0 (by decide)
 refine Sr ?_
 refine Lq ((Q_lss rfl rfl).as (v' := .bool true) rfl) ?_
 refine Ln ?_
 refine J_seq ?_
 refine J_condT rfl ?_
 refine J_skip ?_
 refine seqQ_normal ?_
 refine J_seq ?_
 refine J_block ?_
 refine Sr ?_
 refine Lq (Q_move rfl) ?_
 refine Lq (Q_aiA 0 (vs := (wdV ⟨w1, w2, w3, w4, w5⟩).toArray) rfl rfl rfl (by decide) rfl ha) ?_
 refine L_o rfl rfl rfl (O_alloc fun b4 => ?_)
 refine Lq (Q_assign rfl) ?_
 refine L_s rfl rfl (O_stW 0 rfl rfl rfl rfl ?_)
 refine JL.norm ?_
 refine Ln ?_
 refine Sr ?_
 refine Lq (Q_fa0 rfl) ?_
 refine Lq (Q_ld 0 rfl rfl rfl rfl) ?_
 refine Lq ((Q_sneq rfl rfl).as (v' := .bool true) (congrArg Value.bool (decide_eq_true h0))) ?_
 refine Lq (Q_move rfl) ?_
 refine Lq (Q_move rfl) ?_
 refine Lq (Q_move rfl) ?_
 refine Lq (Q_fa0 rfl) ?_
 refine Lq (Q_ld 0 rfl rfl rfl rfl) ?_
 refine L_o rfl rfl rfl (O_call [1,2] [0,3] hm rfl rfl ?_)
 rintro _ _ ⟨rfl, rfl⟩
 refine JL.norm ?_
 refine Lq (Q_pickT rfl rfl) ?_
 refine Ln ?_
 refine J_condT rfl ?_
 refine J_seq ?_
 refine DH [2] [0,1,2,3,4,5,7,8] (.quiet 0 (.quiet 1 (.quiet 2 (.quiet 3 (.quiet 4 (.quiet 5 (.loud 6 (.quiet 7 (.quiet 8 (.loud 9 .done)))))))))) Tryz.mixed ?_
 refine Sq (Ent.re [2] rfl) rfl (Q_move rfl) ?_
 refine Sq (Ent.re [2] rfl) rfl (Q_move rfl) ?_
 refine Sq (Ent.re [2] rfl) rfl (Q_fa0 rfl) ?_
 refine Sq (Ent.re [2] rfl) rfl (Q_ld 0 rfl rfl rfl rfl) ?_
 refine Sq (Ent.re [2] rfl) rfl (Q_nilCheck rfl) ?_
 refine Sq (Ent.re [2] rfl) rfl (Q_fa0 rfl) ?_
 refine S_s rfl rfl rfl (O_st1 0 rfl rfl rfl rfl rfl ⟨_, fun _ => ⟨Ent.reN [2] rfl, Ent.refl _⟩, ?_⟩)
 refine JS.norm ?_
 refine Sq (Ent.re [2] rfl) rfl (Q_nilCheck rfl) ?_
 refine Sq (Ent.re [2] rfl) rfl (Q_fa0 rfl) ?_
 refine S_s rfl rfl rfl (O_st1 0 rfl rfl rfl rfl rfl ⟨[], free_no (by kernel_rfl), ?_⟩)
 refine JS.norm ?_
 refine S_nil ?_
 refine seqQ_normal ?_
 refine Sr ?_
 refine Lq (Q_assign rfl) ?_
 refine Ln ?_
 refine J_ret ?_
 refine blockQ_ret ?_
 refine seqQ_ret ?_
 refine loopQ_ret ?_
 refine blockQ_ret ?_
 refine seqQ_ret ?_
 exact retQ_ret _ [agC p (((⟨ah, own, round, step, lv, lr, vv, vr, ⟨w1, w2, w3, w4, w5⟩, seen, done, dec⟩ : Ag).sDone true).sDec w5) pv m, votA pv l] (.cons (RV_tmp rfl) .nil) ⟨rfl, rfl⟩ (Ent.re [0,1,3] rfl)
theorem aprevoteF_ok (m : Value) (w : Wd) (h : A.step ≠ 1) : Does Tryz.prog E 124 [.pointer (some ⟨p, 0, none⟩), .agg (wdV w).toArray] [agC p A pv m] fun r L => r = .bool false ∧ L = [agC p A pv m] := by
 refine Does.of Tryz.func124 rfl Tryz.ntmps124 rfl rfl fun F => ?_
 refine J.norm ?_
 refine Sr ?_
 refine L_o rfl rfl rfl (O_box rfl fun b3 => ?_)
 refine Lq (Q_assign rfl) ?_
 refine Ln ?_
 refine J_seq ?_
 refine Sr ?_
 refine Lq (Q_move rfl) ?_
 refine Lq (Q_nilCheck rfl) ?_
 refine Lq (Q_fa0 rfl) ?_
 refine Lq (Q_ldG 1 rfl rfl rfl) ?_
 refine Lq ((Q_neq rfl rfl).as (v' := .bool true) (congrArg Value.bool (decide_eq_true h))) ?_
 refine Lq (Q_move rfl) ?_
 refine L_n rfl rfl rfl ?_
 refine L_n rfl rfl rfl ?_
 refine L_n rfl rfl rfl ?_
 refine Lq (Q_pickT rfl rfl) ?_
 refine Lq (Q_move rfl) ?_
 refine L_n rfl rfl rfl ?_
 refine L_n rfl rfl rfl ?_
 refine L_n rfl rfl rfl ?_
 refine L_n rfl rfl rfl ?_
 refine L_n rfl rfl rfl ?_
 refine L_n rfl rfl rfl ?_
 refine L_n rfl rfl rfl ?_
 refine L_n rfl rfl rfl ?_
 refine L_n rfl rfl rfl ?_
 refine L_n rfl rfl rfl ?_
 refine L_n rfl rfl rfl ?_
 refine L_n rfl rfl rfl ?_
 refine Lq (Q_pickT rfl rfl) ?_
 refine Ln ?_
 refine J_condT rfl ?_
 refine Sr ?_
 refine Lq (Q_assign rfl) ?_
 refine Ln ?_
 refine J_ret ?_
 refine seqQ_ret ?_
 exact retQ_ret _ [agC p A pv m] (.cons (RV_tmp rfl) .nil) ⟨rfl, rfl⟩ (Ent.re [1,2] rfl)
theorem aprevoteT_ok (S : SV) (out : List Wd) (h : A.step = 1) (h0 : v ≠ []) (hr : A.round = 0) (hlr : A.lr = -1) (ho : out.length ≤ 1000) : Does Tryz.prog E 124 [.pointer (some ⟨p, 0, none⟩), .agg (wdV (prop0 v)).toArray] [agC p A pv (sayV b), cel b [S.v] 124, slc tWd true S out] fun r L => ∃ S' : SV, r = .bool true ∧ L = [agC p (A.sStep 2) pv (sayV b), cel b [S'.v] 124, slc tWd true S' (out ++ [vote0 2 v])] := by
 have hvo := avote_ok E p pv b A S out 2 v (.inl rfl) hr ho
 refine Does.of Tryz.func124 rfl Tryz.ntmps124 rfl rfl fun F => ?_
 refine J.norm ?_
 refine Sr ?_
 refine L_o rfl rfl rfl (O_box rfl fun b3 => ?_)
 refine Lq (Q_assign rfl) ?_
 refine Ln ?_
 refine J_seq ?_
 refine Sr ?_
 refine Lq (Q_move rfl) ?_
 refine Lq (Q_nilCheck rfl) ?_
 refine Lq (Q_fa0 rfl) ?_
 refine Lq (Q_ldG 1 rfl rfl rfl) ?_
 refine Lq ((Q_neq rfl rfl).as (v' := .bool false) (congrArg Value.bool (decide_eq_false (by simp [h])))) ?_
 refine Lq (Q_move rfl) ?_
 refine Lq (Q_fa0 rfl) ?_
 refine Lq (Q_ld 0 rfl rfl rfl rfl) ?_
 refine Lq ((Q_seql rfl rfl).as (v' := .bool false) (congrArg Value.bool (decide_eq_false h0))) ?_
 refine Lq (Q_pickF rfl rfl) ?_
 refine Lq (Q_move rfl) ?_
 refine Lq (Q_fa0 rfl) ?_
 refine Lq (Q_ld 0 rfl rfl rfl rfl) ?_
 refine Lq ((Q_geq rfl rfl).as (v' := .bool false) rfl) ?_
 refine Lq (Q_move rfl) ?_
 refine L_n rfl rfl rfl ?_
 refine L_n rfl rfl rfl ?_
 refine L_n rfl rfl rfl ?_
 refine L_n rfl rfl rfl ?_
 refine L_n rfl rfl rfl ?_
 refine L_n rfl rfl rfl ?_
 refine L_n rfl rfl rfl ?_
 refine Lq (Q_pickF rfl rfl) ?_
 refine Lq (Q_pickF rfl rfl) ?_
 refine Ln ?_
 refine J_condF rfl ?_
 refine J_skip ?_
 refine seqQ_normal ?_
 refine J_seq ?_
 refine DL [0,1,2,3,4,5,6,7,8,9,10,11,12,13,14,15,16,17,18,19,20,21,22,23,24,25,26,27,28,29,30,31] (.quiet 0 (.quiet 1 (.quiet 2 (.quiet 3 (.quiet 4 (.quiet 5 (.quiet 6 (.quiet 7 (.quiet 8 (.quiet 9 (.quiet 10 (.quiet 11 (.quiet 12 (.quiet 13 (.quiet 14 (.quiet 15 (.quiet 16 (.quiet 17 (.quiet 18 (.quiet 19 (.quiet 20 (.quiet 21 (.quiet 22 (.quiet 23 (.quiet 24 (.quiet 25 (.quiet 26 (.quiet 27 (.quiet 28 (.quiet 29 (.quiet 30 (.quiet 31 .done)))))))))))))))))))))))))))))))) Tryz.mixed ?_
 refine Sq (Ent.refl _) rfl (Q_move rfl) ?_
 refine Sq (Ent.refl _) rfl (Q_nilCheck rfl) ?_
 refine Sq (Ent.refl _) rfl (Q_fa0 rfl) ?_
 refine Sq (Ent.refl _) rfl (Q_fa rfl rfl) ?_
 refine Sq (Ent.refl _) rfl (Q_ldG 1 rfl rfl rfl) ?_
 refine Sq (Ent.refl _) rfl ((Q_lss rfl rfl).as (v' := .bool true) (congrArg Value.bool (decide_eq_true (by show A.lr < 0; omega)))) ?_
 refine Sq (Ent.refl _) rfl (Q_move rfl) ?_
 refine S_n (Ent.refl _) rfl rfl rfl rfl ?_
 refine S_n (Ent.refl _) rfl rfl rfl rfl ?_
 refine S_n (Ent.refl _) rfl rfl rfl rfl ?_
 refine S_n (Ent.refl _) rfl rfl rfl rfl ?_
 refine S_n (Ent.refl _) rfl rfl rfl rfl ?_
 refine S_n (Ent.refl _) rfl rfl rfl rfl ?_
 refine S_n (Ent.refl _) rfl rfl rfl rfl ?_
 refine S_n (Ent.refl _) rfl rfl rfl rfl ?_
 refine Sq (Ent.refl _) rfl (Q_pickT rfl rfl) ?_
 refine Sq (Ent.refl _) rfl (Q_move rfl) ?_
 refine S_n (Ent.refl _) rfl rfl rfl rfl ?_
 refine S_n (Ent.refl _) rfl rfl rfl rfl ?_
 refine S_n (Ent.refl _) rfl rfl rfl rfl ?_
 refine S_n (Ent.refl _) rfl rfl rfl rfl ?_
 refine S_n (Ent.refl _) rfl rfl rfl rfl ?_
 refine S_n (Ent.refl _) rfl rfl rfl rfl ?_
 refine S_n (Ent.refl _) rfl rfl rfl rfl ?_
 refine S_n (Ent.refl _) rfl rfl rfl rfl ?_
 refine S_n (Ent.refl _) rfl rfl rfl rfl ?_
 refine S_n (Ent.refl _) rfl rfl rfl rfl ?_
 refine S_n (Ent.refl _) rfl rfl rfl rfl ?_
 refine S_n (Ent.refl _) rfl rfl rfl rfl ?_
 refine S_n (Ent.refl _) rfl rfl rfl rfl ?_
 refine Sq (Ent.refl _) rfl (Q_pickT rfl rfl) ?_
 refine Sq (Ent.refl _) rfl (Q_assign rfl) ?_
 refine S_nil ?_
 refine seqQ_normal ?_
 refine J_seq ?_
 refine Sr ?_
 refine Lq (Q_move rfl) ?_
 refine Ln ?_
 refine J_condT rfl ?_
 refine J_region ?_
 refine Lq (Q_move rfl) ?_
 refine Lq (Q_fa0 rfl) ?_
 refine Lq (Q_ld 0 rfl rfl rfl rfl) ?_
 refine L_o rfl rfl rfl (O_call [1,2,3] [0,4] hvo rfl rfl ?_)
 rintro _ _ ⟨S', rfl, rfl⟩
 refine JL.norm ?_
 refine Ln ?_
 refine Sr ?_
 refine Lq (Q_assign rfl) ?_
 refine Ln ?_
 refine J_ret ?_
 exact retQ_ret _ [agC p (A.sStep 2) pv (sayV b), cel b [S'.v] 124, slc tWd true S' (out ++ [vote0 2 v])] (.cons (RV_tmp rfl) .nil) ⟨S', rfl, rfl⟩ (Ent.re [0,1,2,4] rfl)
end
end Go.Proofs
/- An agreement of one node: its rules, the first that applies. -/
set_option autoImplicit false
namespace Go.Proofs
open Go.SL Go.Proofs.Bt
attribute [local irreducible] J JL QOp JOp seqQ blockQ loopQ retQ slc cel hex star pur stars Does RV Ent pAt scopeQ
attribute [local irreducible] votA agL zer63 bz122
section
variable (E : World) (p pv b : Nat) (A : Ag) (l : List Wd) (v : Ky)
theorem aprecF1_ok (m : Value) (hs : A.step ≠ 1) (h0 : v ≠ []) (hse : A.seen = false) (hr : A.round = 0) (hV : Vots l v) (hc : cntK l 2 = 0) : Does Tryz.prog E 125 [.pointer (some ⟨p, 0, none⟩), .agg (wdV (prop0 v)).toArray] [agC p A pv m, votA pv l] fun r L => r = .bool false ∧ L = [agC p A pv m, votA pv l] := by
 have hm := amost_ok E p pv A m l 2 v v hV (by omega)
 rw [show decide (cntK l 2 ≠ 0) = false by simp [hc]] at hm
 obtain ⟨ah, own, round, step, lv, lr, vv, vr, w0, seen, done, dec⟩ := A
 dsimp only at hs hse hr
 subst hse hr
 refine Does.of Tryz.func125 rfl Tryz.ntmps125 rfl rfl fun F => ?_
 refine J.norm ?_
 refine Sr ?_
 refine L_o rfl rfl rfl (O_box rfl fun b3 => ?_)
 refine Lq (Q_assign rfl) ?_
 refine Ln ?_
 refine J_seq ?_
 refine J_seq ?_
 refine DH [0,1] [0,1,2,3,4,5,6,7,8,9,10,11,12,13,14,15,16,17,18,19,20,21,22,23,25,26] (.quiet 0 (.quiet 1 (.quiet 2 (.quiet 3 (.quiet 4 (.quiet 5 (.quiet 6 (.quiet 7 (.quiet 8 (.quiet 9 (.quiet 10 (.quiet 11 (.quiet 12 (.quiet 13 (.quiet 14 (.quiet 15 (.quiet 16 (.quiet 17 (.quiet 18 (.quiet 19 (.quiet 20 (.quiet 21 (.quiet 22 (.quiet 23 (.loud 24 (.quiet 25 (.quiet 26 .done))))))))))))))))))))))))))) Tryz.mixed ?_
 refine Sq (Ent.re [0,1] rfl) rfl (Q_move rfl) ?_
 refine Sq (Ent.re [0,1] rfl) rfl (Q_nilCheck rfl) ?_
 refine Sq (Ent.re [0,1] rfl) rfl (Q_fa0 rfl) ?_
 refine Sq (Ent.re [0,1] rfl) rfl (Q_ldG 1 rfl rfl rfl) ?_
 refine Sq (Ent.re [0,1] rfl) rfl ((Q_eql rfl rfl).as (v' := .bool false) (congrArg Value.bool (decide_eq_false hs))) ?_
 refine Sq (Ent.re [0,1] rfl) rfl (Q_move rfl) ?_
 refine Sq (Ent.re [0,1] rfl) rfl (Q_fa0 rfl) ?_
 refine Sq (Ent.re [0,1] rfl) rfl (Q_ld 0 rfl rfl rfl rfl) ?_
 refine Sq (Ent.re [0,1] rfl) rfl ((Q_seql rfl rfl).as (v' := .bool false) (congrArg Value.bool (decide_eq_false h0))) ?_
 refine Sq (Ent.re [0,1] rfl) rfl (Q_pickF rfl rfl) ?_
 refine Sq (Ent.re [0,1] rfl) rfl (Q_move rfl) ?_
 refine Sq (Ent.re [0,1] rfl) rfl (Q_move rfl) ?_
 refine Sq (Ent.re [0,1] rfl) rfl (Q_nilCheck rfl) ?_
 refine Sq (Ent.re [0,1] rfl) rfl (Q_fa0 rfl) ?_
 refine Sq (Ent.re [0,1] rfl) rfl (Q_ldG 1 rfl rfl rfl) ?_
 refine Sq (Ent.re [0,1] rfl) rfl (Q_pickF rfl rfl) ?_
 refine Sq (Ent.re [0,1] rfl) rfl (Q_move rfl) ?_
 refine Sq (Ent.re [0,1] rfl) rfl (Q_move rfl) ?_
 refine Sq (Ent.re [0,1] rfl) rfl (Q_move rfl) ?_
 refine Sq (Ent.re [0,1] rfl) rfl (Q_nilCheck rfl) ?_
 refine Sq (Ent.re [0,1] rfl) rfl (Q_fa0 rfl) ?_
 refine Sq (Ent.re [0,1] rfl) rfl (Q_ldG 1 rfl rfl rfl) ?_
 refine Sq (Ent.re [0,1] rfl) rfl (Q_fa0 rfl) ?_
 refine Sq (Ent.re [0,1] rfl) rfl (Q_ld 0 rfl rfl rfl rfl) ?_
 refine S_o rfl rfl rfl rfl (O_call [1,2] [0,3] hm rfl rfl ?_)
 (rintro _ _ ⟨rfl, rfl⟩; refine ⟨_, fun _ => ⟨Ent.reN [2,0] rfl, Ent.refl _⟩, ?_⟩)
 refine JS.norm ?_
 refine Sq (Ent.re [2,0] rfl) rfl ((Q_not rfl).as (v' := .bool true) rfl) ?_
 refine Sq (Ent.re [2,0] rfl) rfl (Q_pickF rfl rfl) ?_
 refine S_nil ?_
 refine seqQ_normal ?_
 refine J_condT rfl ?_
 refine Sr ?_
 refine Lq (Q_assign rfl) ?_
 refine Ln ?_
 refine J_ret ?_
 refine seqQ_ret ?_
 exact retQ_ret _ _ (.cons (RV_tmp rfl) .nil) ⟨rfl, rfl⟩ (Ent.re [0,1,3] rfl)
theorem aprecF2_ok (m : Value) (hs : A.step ≠ 1) (h0 : v ≠ []) (hse : A.seen = true) : Does Tryz.prog E 125 [.pointer (some ⟨p, 0, none⟩), .agg (wdV (prop0 v)).toArray] [agC p A pv m] fun r L => r = .bool false ∧ L = [agC p A pv m] := by
 obtain ⟨ah, own, round, step, lv, lr, vv, vr, w0, seen, done, dec⟩ := A
 dsimp only at hs hse
 subst hse
 refine Does.of Tryz.func125 rfl Tryz.ntmps125 rfl rfl fun F => ?_
 refine J.norm ?_
 refine Sr ?_
 refine L_o rfl rfl rfl (O_box rfl fun b3 => ?_)
 refine Lq (Q_assign rfl) ?_
 refine Ln ?_
 refine J_seq ?_
 refine J_seq ?_
 refine DH [0,1] [0,1,2,3,4,5,6,7,8,9,10,11,12,13,14,15,16,17,18,19,20,21,22,23,25,26] (.quiet 0 (.quiet 1 (.quiet 2 (.quiet 3 (.quiet 4 (.quiet 5 (.quiet 6 (.quiet 7 (.quiet 8 (.quiet 9 (.quiet 10 (.quiet 11 (.quiet 12 (.quiet 13 (.quiet 14 (.quiet 15 (.quiet 16 (.quiet 17 (.quiet 18 (.quiet 19 (.quiet 20 (.quiet 21 (.quiet 22 (.quiet 23 (.loud 24 (.quiet 25 (.quiet 26 .done))))))))))))))))))))))))))) Tryz.mixed ?_
 refine Sq (Ent.re [0,1] rfl) rfl (Q_move rfl) ?_
 refine Sq (Ent.re [0,1] rfl) rfl (Q_nilCheck rfl) ?_
 refine Sq (Ent.re [0,1] rfl) rfl (Q_fa0 rfl) ?_
 refine Sq (Ent.re [0,1] rfl) rfl (Q_ldG 1 rfl rfl rfl) ?_
 refine Sq (Ent.re [0,1] rfl) rfl ((Q_eql rfl rfl).as (v' := .bool false) (congrArg Value.bool (decide_eq_false hs))) ?_
 refine Sq (Ent.re [0,1] rfl) rfl (Q_move rfl) ?_
 refine Sq (Ent.re [0,1] rfl) rfl (Q_fa0 rfl) ?_
 refine Sq (Ent.re [0,1] rfl) rfl (Q_ld 0 rfl rfl rfl rfl) ?_
 refine Sq (Ent.re [0,1] rfl) rfl ((Q_seql rfl rfl).as (v' := .bool false) (congrArg Value.bool (decide_eq_false h0))) ?_
 refine Sq (Ent.re [0,1] rfl) rfl (Q_pickF rfl rfl) ?_
 refine Sq (Ent.re [0,1] rfl) rfl (Q_move rfl) ?_
 refine Sq (Ent.re [0,1] rfl) rfl (Q_move rfl) ?_
 refine Sq (Ent.re [0,1] rfl) rfl (Q_nilCheck rfl) ?_
 refine Sq (Ent.re [0,1] rfl) rfl (Q_fa0 rfl) ?_
 refine Sq (Ent.re [0,1] rfl) rfl (Q_ldG 1 rfl rfl rfl) ?_
 refine Sq (Ent.re [0,1] rfl) rfl (Q_pickF rfl rfl) ?_
 refine Sq (Ent.re [0,1] rfl) rfl (Q_move rfl) ?_
 refine S_n (Ent.re [0,1] rfl) rfl rfl rfl rfl ?_
 refine S_n (Ent.re [0,1] rfl) rfl rfl rfl rfl ?_
 refine S_n (Ent.re [0,1] rfl) rfl rfl rfl rfl ?_
 refine S_n (Ent.re [0,1] rfl) rfl rfl rfl rfl ?_
 refine S_n (Ent.re [0,1] rfl) rfl rfl rfl rfl ?_
 refine S_n (Ent.re [0,1] rfl) rfl rfl rfl rfl ?_
 refine S_n (Ent.re [0,1] rfl) rfl rfl rfl rfl ?_
 refine S_no rfl rfl rfl rfl (fun _ => (Ent.re [0,1] rfl)) ?_
 refine S_n (Ent.re [0,1] rfl) rfl rfl rfl rfl ?_
 refine Sq (Ent.re [0,1] rfl) rfl (Q_pickT rfl rfl) ?_
 refine S_nil ?_
 refine seqQ_normal ?_
 refine J_condT rfl ?_
 refine Sr ?_
 refine Lq (Q_assign rfl) ?_
 refine Ln ?_
 refine J_ret ?_
 refine seqQ_ret ?_
 exact retQ_ret _ _ (.cons (RV_tmp rfl) .nil) ⟨rfl, rfl⟩ (Ent.re [1,2] rfl)
theorem aprecT_ok (S : SV) (out : List Wd) (hs : A.step = 2) (h0 : v ≠ []) (hse : A.seen = false) (hr : A.round = 0) (hV : Vots l v) (hc : cntK l 2 = 1) (ho : out.length ≤ 1000) : Does Tryz.prog E 125 [.pointer (some ⟨p, 0, none⟩), .agg (wdV (prop0 v)).toArray] [agC p A pv (sayV b), votA pv l, cel b [S.v] 124, slc tWd true S out] fun r L => ∃ S' : SV, r = .bool true ∧ L = [agC p ((((A.sSeen true).sValid v 0).sLock v 0).sStep 3) pv (sayV b), votA pv l, cel b [S'.v] 124, slc tWd true S' (out ++ [vote0 3 v])] := by
 have hm := amost_ok E p pv A (sayV b) l 2 v v hV (by omega)
 rw [show decide (cntK l 2 ≠ 0) = true by simp [hc], show decide (v = v) = true by simp] at hm
 have hvo := avote_ok E p pv b (((A.sSeen true).sValid v 0).sLock v 0) S out 3 v (.inr rfl) hr ho
 obtain ⟨ah, own, round, step, lv, lr, vv, vr, w0, seen, done, dec⟩ := A
 dsimp only at hs hse hr
 subst hse hr hs
 refine Does.of Tryz.func125 rfl Tryz.ntmps125 rfl rfl fun F => ?_
 refine J.norm ?_
 refine Sr ?_
 refine L_o rfl rfl rfl (O_box rfl fun b3 => ?_)
 refine Lq (Q_assign rfl) ?_
 refine Ln ?_
 refine J_seq ?_
 refine J_seq ?_
 refine DH [0,1] [0,1,2,3,4,5,6,7,8,9,10,11,12,13,14,15,16,17,18,19,20,21,22,23,25,26] (.quiet 0 (.quiet 1 (.quiet 2 (.quiet 3 (.quiet 4 (.quiet 5 (.quiet 6 (.quiet 7 (.quiet 8 (.quiet 9 (.quiet 10 (.quiet 11 (.quiet 12 (.quiet 13 (.quiet 14 (.quiet 15 (.quiet 16 (.quiet 17 (.quiet 18 (.quiet 19 (.quiet 20 (.quiet 21 (.quiet 22 (.quiet 23 (.loud 24 (.quiet 25 (.quiet 26 .done))))))))))))))))))))))))))) Tryz.mixed ?_
 refine Sq (Ent.re [0,1] rfl) rfl (Q_move rfl) ?_
 refine Sq (Ent.re [0,1] rfl) rfl (Q_nilCheck rfl) ?_
 refine Sq (Ent.re [0,1] rfl) rfl (Q_fa0 rfl) ?_
 refine Sq (Ent.re [0,1] rfl) rfl (Q_ldG 1 rfl rfl rfl) ?_
 refine Sq (Ent.re [0,1] rfl) rfl ((Q_eql rfl rfl).as (v' := .bool false) rfl) ?_
 refine Sq (Ent.re [0,1] rfl) rfl (Q_move rfl) ?_
 refine Sq (Ent.re [0,1] rfl) rfl (Q_fa0 rfl) ?_
 refine Sq (Ent.re [0,1] rfl) rfl (Q_ld 0 rfl rfl rfl rfl) ?_
 refine Sq (Ent.re [0,1] rfl) rfl ((Q_seql rfl rfl).as (v' := .bool false) (congrArg Value.bool (decide_eq_false h0))) ?_
 refine Sq (Ent.re [0,1] rfl) rfl (Q_pickF rfl rfl) ?_
 refine Sq (Ent.re [0,1] rfl) rfl (Q_move rfl) ?_
 refine Sq (Ent.re [0,1] rfl) rfl (Q_move rfl) ?_
 refine Sq (Ent.re [0,1] rfl) rfl (Q_nilCheck rfl) ?_
 refine Sq (Ent.re [0,1] rfl) rfl (Q_fa0 rfl) ?_
 refine Sq (Ent.re [0,1] rfl) rfl (Q_ldG 1 rfl rfl rfl) ?_
 refine Sq (Ent.re [0,1] rfl) rfl (Q_pickF rfl rfl) ?_
 refine Sq (Ent.re [0,1] rfl) rfl (Q_move rfl) ?_
 refine Sq (Ent.re [0,1] rfl) rfl (Q_move rfl) ?_
 refine Sq (Ent.re [0,1] rfl) rfl (Q_move rfl) ?_
 refine Sq (Ent.re [0,1] rfl) rfl (Q_nilCheck rfl) ?_
 refine Sq (Ent.re [0,1] rfl) rfl (Q_fa0 rfl) ?_
 refine Sq (Ent.re [0,1] rfl) rfl (Q_ldG 1 rfl rfl rfl) ?_
 refine Sq (Ent.re [0,1] rfl) rfl (Q_fa0 rfl) ?_
 refine Sq (Ent.re [0,1] rfl) rfl (Q_ld 0 rfl rfl rfl rfl) ?_
 refine S_o rfl rfl rfl rfl (O_call [1,2] [0,3,4,5] hm rfl rfl ?_)
 (rintro _ _ ⟨rfl, rfl⟩; refine ⟨_, fun _ => ⟨Ent.reN [2,0] rfl, Ent.refl _⟩, ?_⟩)
 refine JS.norm ?_
 refine Sq (Ent.re [2,0] rfl) rfl ((Q_not rfl).as (v' := .bool false) rfl) ?_
 refine Sq (Ent.re [2,0] rfl) rfl (Q_pickF rfl rfl) ?_
 refine S_nil ?_
 refine seqQ_normal ?_
 refine J_condF rfl ?_
 refine J_skip ?_
 refine seqQ_normal ?_
 refine Sr ?_
 refine Lq (Q_move rfl) ?_
 refine Lq (Q_nilCheck rfl) ?_
 refine Lq (Q_fa0 rfl) ?_
 refine L_s rfl rfl (O_st1 0 rfl rfl rfl rfl rfl ?_)
 refine JL.norm ?_
 refine Ln ?_
 refine J_seq ?_
 refine DH [0,2] [0,1,2,3,4,5,6,7,8,9] (.quiet 0 (.quiet 1 (.quiet 2 (.quiet 3 (.quiet 4 (.quiet 5 (.quiet 6 (.quiet 7 (.quiet 8 (.quiet 9 (.loud 10 .done))))))))))) Tryz.mixed ?_
 refine Sq (Ent.re [0,2] rfl) rfl (Q_move rfl) ?_
 refine Sq (Ent.re [0,2] rfl) rfl (Q_fa0 rfl) ?_
 refine Sq (Ent.re [0,2] rfl) rfl (Q_ld 1 rfl rfl rfl rfl) ?_
 refine Sq (Ent.re [0,2] rfl) rfl (Q_move rfl) ?_
 refine Sq (Ent.re [0,2] rfl) rfl (Q_nilCheck rfl) ?_
 refine Sq (Ent.re [0,2] rfl) rfl (Q_fa0 rfl) ?_
 refine Sq (Ent.re [0,2] rfl) rfl (Q_ldG 0 rfl rfl rfl) ?_
 refine Sq (Ent.re [0,2] rfl) rfl (Q_build rfl) ?_
 refine Sq (Ent.re [0,2] rfl) rfl (Q_nilCheck rfl) ?_
 refine Sq (Ent.re [0,2] rfl) rfl (Q_fa0 rfl) ?_
 refine S_s rfl rfl rfl (O_stP 0 rfl rfl rfl rfl ⟨[], free_no (by kernel_rfl), ?_⟩)
 refine JS.norm ?_
 refine S_nil ?_
 refine seqQ_normal ?_
 refine J_seq ?_
 refine Sr ?_
 refine Lq (Q_move rfl) ?_
 refine Lq (Q_nilCheck rfl) ?_
 refine Lq (Q_fa0 rfl) ?_
 refine Lq (Q_ldG 0 rfl rfl rfl) ?_
 refine Lq ((Q_eql rfl rfl).as (v' := .bool true) rfl) ?_
 refine Ln ?_
 refine J_condT rfl ?_
 refine Sr ?_
 refine Lq (Q_move rfl) ?_
 refine Lq (Q_move rfl) ?_
 refine Lq (Q_nilCheck rfl) ?_
 refine Lq (Q_fa0 rfl) ?_
 refine Lq (Q_ldA 0 rfl rfl rfl) ?_
 refine Lq (Q_nilCheck rfl) ?_
 refine Lq (Q_fa0 rfl) ?_
 refine L_s rfl rfl (O_stP 0 rfl rfl rfl rfl ?_)
 refine JL.norm ?_
 refine Ln ?_
 refine J_region ?_
 refine Lq (Q_move rfl) ?_
 refine Lq (Q_fa0 rfl) ?_
 refine Lq (Q_ld 2 rfl rfl rfl rfl) ?_
 refine L_o rfl rfl rfl (O_call [0,3,4] [1,2,5] hvo rfl rfl ?_)
 rintro _ _ ⟨S', rfl, rfl⟩
 refine JL.norm ?_
 refine Ln ?_
 refine Sr ?_
 refine Lq (Q_assign rfl) ?_
 refine Ln ?_
 refine J_ret ?_
 exact retQ_ret _ [agC p (((((⟨ah, own, 0, 2, lv, lr, vv, vr, w0, false, done, dec⟩ : Ag).sSeen true).sValid v 0).sLock v 0).sStep 3) pv (sayV b), votA pv l, cel b [S'.v] 124, slc tWd true S' (out ++ [vote0 3 v])] (.cons (RV_tmp rfl) .nil) ⟨S', rfl, rfl⟩ (Ent.re [0,3,1,2,5] rfl)
/-- Rules 3, 4: a prevote for the proposal. -/
theorem arule1_ok (S : SV) (out : List Wd) (hw : A.w0 = prop0 v) (hs : A.step = 1) (h0 : v ≠ []) (hr : A.round = 0) (hlr : A.lr = -1) (hV : Vots l v) (hc : cntK l 3 = 0) (ho : out.length ≤ 1000) : Does Tryz.prog E 107 [.pointer (some ⟨p, 0, none⟩)] [agC p A pv (sayV b), votA pv l, cel b [S.v] 124, slc tWd true S out] fun r L => ∃ S' : SV, r = .bool true ∧ L = [agC p (A.sStep 2) pv (sayV b), votA pv l, cel b [S'.v] 124, slc tWd true S' (out ++ [vote0 2 v])] := by
 have hd := adecideF_ok E p pv A l v (sayV b) hV (by omega) (.inr hc)
 have hpv := aprevoteT_ok E p pv b A v S out hs h0 hr hlr ho
 have hah := vahead_ok E pv l v hV
 obtain ⟨ah, own, round, step, lv, lr, vv, vr, w0, seen, done, dec⟩ := A
 dsimp only at hw hs hr hlr
 subst hw hs hr hlr
 refine Does.of Tryz.func107 rfl Tryz.ntmps107 rfl rfl fun F => ?_
 refine J.norm ?_
 refine Sr ?_
 refine Lq (Q_assign rfl) ?_
 refine Ln ?_
 refine J_seq ?_
 refine Sr ?_
 refine Lq (Q_move rfl) ?_
 refine L_o rfl rfl rfl (O_call [0,1] [2,3,4] hd rfl rfl ?_)
 rintro _ _ ⟨rfl, rfl⟩
 refine JL.norm ?_
 refine Ln ?_
 refine J_condF rfl ?_
 refine J_skip ?_
 refine seqQ_normal ?_
 refine J_seq ?_
 refine J_seq ?_
 refine DH [0] [0,1,2,3,4,5,6,7,9] (.quiet 0 (.quiet 1 (.quiet 2 (.quiet 3 (.quiet 4 (.quiet 5 (.quiet 6 (.quiet 7 (.loud 8 (.quiet 9 .done)))))))))) Tryz.mixed ?_
 refine Sq (Ent.re [0] rfl) rfl (Q_move rfl) ?_
 refine Sq (Ent.re [0] rfl) rfl (Q_nilCheck rfl) ?_
 refine Sq (Ent.re [0] rfl) rfl (Q_fa0 rfl) ?_
 refine Sq (Ent.re [0] rfl) rfl (Q_ldG 0 rfl rfl rfl) ?_
 refine Sq (Ent.re [0] rfl) rfl (Q_move rfl) ?_
 refine Sq (Ent.re [0] rfl) rfl (Q_nilCheck rfl) ?_
 refine Sq (Ent.re [0] rfl) rfl (Q_fa0 rfl) ?_
 refine Sq (Ent.re [0] rfl) rfl (Q_ldG 0 rfl rfl rfl) ?_
 refine S_o rfl rfl rfl rfl (O_call [1] [0,2,3,4] hah rfl rfl ?_)
 (rintro _ _ ⟨rfl, rfl⟩; refine ⟨_, fun _ => ⟨Ent.reN [1] rfl, Ent.refl _⟩, ?_⟩)
 refine JS.norm ?_
 refine Sq (Ent.re [1] rfl) rfl (Q_assign rfl) ?_
 refine S_nil ?_
 refine seqQ_normal ?_
 refine Sr ?_
 refine Lq (Q_move rfl) ?_
 refine Lq (Q_move rfl) ?_
 refine Lq (Q_nilCheck rfl) ?_
 refine Lq (Q_fa0 rfl) ?_
 refine Lq (Q_ldG 1 rfl rfl rfl) ?_
 refine Lq ((Q_gtr rfl rfl).as (v' := .bool false) rfl) ?_
 refine Ln ?_
 refine J_condF rfl ?_
 refine J_skip ?_
 refine seqQ_normal ?_
 refine J_seq ?_
 refine DH [1] [0,1,2,3,4,5,6,7,8] (.quiet 0 (.quiet 1 (.quiet 2 (.quiet 3 (.quiet 4 (.quiet 5 (.quiet 6 (.quiet 7 (.quiet 8 (.loud 9 (.loud 10 .done))))))))))) Tryz.mixed ?_
 refine Sq (Ent.re [1] rfl) rfl (Q_move rfl) ?_
 refine Sq (Ent.re [1] rfl) rfl (Q_move rfl) ?_
 refine Sq (Ent.re [1] rfl) rfl (Q_nilCheck rfl) ?_
 refine Sq (Ent.re [1] rfl) rfl (Q_fa0 rfl) ?_
 refine Sq (Ent.re [1] rfl) rfl (Q_ldG 0 rfl rfl rfl) ?_
 refine Sq (Ent.re [1] rfl) rfl (Q_nilCheck rfl) ?_
 refine Sq (Ent.re [1] rfl) rfl (Q_fa0 rfl) ?_
 refine Sq (Ent.re [1] rfl) rfl (Q_ia (o' := 10) 0 rfl rfl rfl (by decide) rfl) ?_
 refine Sq (Ent.re [1] rfl) rfl (Q_ldA 0 rfl rfl rfl) ?_
 refine S_o rfl rfl rfl rfl (O_alloc (fun b4 => ⟨_, fun _ => ⟨Ent.reN [2] rfl, Ent.refl _⟩, ?_⟩))
 refine JS.norm ?_
 refine S_s rfl rfl rfl (O_stW 0 rfl rfl rfl rfl ⟨[], free_no (by kernel_rfl), ?_⟩)
 refine JS.norm ?_
 refine S_nil ?_
 refine seqQ_normal ?_
 refine J_seq ?_
 refine Sr ?_
 refine Lq (Q_move rfl) ?_
 refine Lq (Q_ldA 0 rfl rfl rfl) ?_
 refine L_o rfl rfl rfl (O_call [2,3,4] [0,1,5] hpv rfl rfl ?_)
 rintro _ _ ⟨S', rfl, rfl⟩
 refine JL.norm ?_
 refine Lq (Q_move rfl) ?_
 refine L_n rfl rfl rfl ?_
 refine L_n rfl rfl rfl ?_
 refine L_n rfl rfl rfl ?_
 refine Lq (Q_pickT rfl rfl) ?_
 refine Ln ?_
 refine J_condT rfl ?_
 refine Sr ?_
 refine Lq (Q_assign rfl) ?_
 refine Ln ?_
 refine J_ret ?_
 refine seqQ_ret ?_
 exact retQ_ret _ [agC p ((⟨ah, own, 0, 1, lv, -1, vv, vr, prop0 v, seen, done, dec⟩ : Ag).sStep 2) pv (sayV b), votA pv l, cel b [S'.v] 124, slc tWd true S' (out ++ [vote0 2 v])] (.cons (RV_tmp rfl) .nil) ⟨S', rfl, rfl⟩ (Ent.re [0,4,1,2,5] rfl)
/-- No rule: prevoted, no quorum. -/
theorem arule2_ok (m : Value) (hw : A.w0 = prop0 v) (hs : A.step = 2) (h0 : v ≠ []) (hr : A.round = 0) (hse : A.seen = false) (hV : Vots l v) (hc : cntK l 3 = 0) (hc2 : cntK l 2 = 0) : Does Tryz.prog E 107 [.pointer (some ⟨p, 0, none⟩)] [agC p A pv m, votA pv l] fun r L => r = .bool false ∧ L = [agC p A pv m, votA pv l] := by
 have hd := adecideF_ok E p pv A l v m hV (by omega) (.inr hc)
 have hpv := aprevoteF_ok E p pv A m (prop0 v) (by omega)
 have hpc := aprecF1_ok E p pv A l v m (by omega) h0 hse hr hV hc2
 have hah := vahead_ok E pv l v hV
 have hm := amost_ok E p pv A m l 2 v [] hV (by omega)
 rw [show decide (cntK l 2 ≠ 0) = false by simp [hc2]] at hm
 obtain ⟨ah, own, round, step, lv, lr, vv, vr, w0, seen, done, dec⟩ := A
 dsimp only at hw hs hr hse
 subst hw hs hr hse
 refine Does.of Tryz.func107 rfl Tryz.ntmps107 rfl rfl fun F => ?_
 refine J.norm ?_
 refine Sr ?_
 refine Lq (Q_assign rfl) ?_
 refine Ln ?_
 refine J_seq ?_
 refine Sr ?_
 refine Lq (Q_move rfl) ?_
 refine L_o rfl rfl rfl (O_call [0,1] [2] hd rfl rfl ?_)
 rintro _ _ ⟨rfl, rfl⟩
 refine JL.norm ?_
 refine Ln ?_
 refine J_condF rfl ?_
 refine J_skip ?_
 refine seqQ_normal ?_
 refine J_seq ?_
 refine J_seq ?_
 refine DH [0] [0,1,2,3,4,5,6,7,9] (.quiet 0 (.quiet 1 (.quiet 2 (.quiet 3 (.quiet 4 (.quiet 5 (.quiet 6 (.quiet 7 (.loud 8 (.quiet 9 .done)))))))))) Tryz.mixed ?_
 refine Sq (Ent.re [0] rfl) rfl (Q_move rfl) ?_
 refine Sq (Ent.re [0] rfl) rfl (Q_nilCheck rfl) ?_
 refine Sq (Ent.re [0] rfl) rfl (Q_fa0 rfl) ?_
 refine Sq (Ent.re [0] rfl) rfl (Q_ldG 0 rfl rfl rfl) ?_
 refine Sq (Ent.re [0] rfl) rfl (Q_move rfl) ?_
 refine Sq (Ent.re [0] rfl) rfl (Q_nilCheck rfl) ?_
 refine Sq (Ent.re [0] rfl) rfl (Q_fa0 rfl) ?_
 refine Sq (Ent.re [0] rfl) rfl (Q_ldG 0 rfl rfl rfl) ?_
 refine S_o rfl rfl rfl rfl (O_call [1] [0,2] hah rfl rfl ?_)
 (rintro _ _ ⟨rfl, rfl⟩; refine ⟨_, fun _ => ⟨Ent.reN [1] rfl, Ent.refl _⟩, ?_⟩)
 refine JS.norm ?_
 refine Sq (Ent.re [1] rfl) rfl (Q_assign rfl) ?_
 refine S_nil ?_
 refine seqQ_normal ?_
 refine Sr ?_
 refine Lq (Q_move rfl) ?_
 refine Lq (Q_move rfl) ?_
 refine Lq (Q_nilCheck rfl) ?_
 refine Lq (Q_fa0 rfl) ?_
 refine Lq (Q_ldG 1 rfl rfl rfl) ?_
 refine Lq ((Q_gtr rfl rfl).as (v' := .bool false) rfl) ?_
 refine Ln ?_
 refine J_condF rfl ?_
 refine J_skip ?_
 refine seqQ_normal ?_
 refine J_seq ?_
 refine DH [1] [0,1,2,3,4,5,6,7,8] (.quiet 0 (.quiet 1 (.quiet 2 (.quiet 3 (.quiet 4 (.quiet 5 (.quiet 6 (.quiet 7 (.quiet 8 (.loud 9 (.loud 10 .done))))))))))) Tryz.mixed ?_
 refine Sq (Ent.re [1] rfl) rfl (Q_move rfl) ?_
 refine Sq (Ent.re [1] rfl) rfl (Q_move rfl) ?_
 refine Sq (Ent.re [1] rfl) rfl (Q_nilCheck rfl) ?_
 refine Sq (Ent.re [1] rfl) rfl (Q_fa0 rfl) ?_
 refine Sq (Ent.re [1] rfl) rfl (Q_ldG 0 rfl rfl rfl) ?_
 refine Sq (Ent.re [1] rfl) rfl (Q_nilCheck rfl) ?_
 refine Sq (Ent.re [1] rfl) rfl (Q_fa0 rfl) ?_
 refine Sq (Ent.re [1] rfl) rfl (Q_ia (o' := 10) 0 rfl rfl rfl (by decide) rfl) ?_
 refine Sq (Ent.re [1] rfl) rfl (Q_ldA 0 rfl rfl rfl) ?_
 refine S_o rfl rfl rfl rfl (O_alloc (fun b4 => ⟨_, fun _ => ⟨Ent.reN [2] rfl, Ent.refl _⟩, ?_⟩))
 refine JS.norm ?_
 refine S_s rfl rfl rfl (O_stW 0 rfl rfl rfl rfl ⟨[], free_no (by kernel_rfl), ?_⟩)
 refine JS.norm ?_
 refine S_nil ?_
 refine seqQ_normal ?_
 refine J_seq ?_
 refine Sr ?_
 refine Lq (Q_move rfl) ?_
 refine Lq (Q_ldA 0 rfl rfl rfl) ?_
 refine L_o rfl rfl rfl (O_call [2] [0,1,3] hpv rfl rfl ?_)
 rintro _ _ ⟨rfl, rfl⟩
 refine JL.norm ?_
 refine Lq (Q_move rfl) ?_
 refine Lq (Q_move rfl) ?_
 refine Lq (Q_ldA 1 rfl rfl rfl) ?_
 refine L_o rfl rfl rfl (O_call [0,2] [1,3] hpc rfl rfl ?_)
 rintro _ _ ⟨rfl, rfl⟩
 refine JL.norm ?_
 refine Lq (Q_pickF rfl rfl) ?_
 refine Ln ?_
 refine J_condF rfl ?_
 refine J_skip ?_
 refine seqQ_normal ?_
 refine J_seq ?_
 refine Sr ?_
 refine Lq (Q_move rfl) ?_
 refine Lq (Q_nilCheck rfl) ?_
 refine Lq (Q_fa0 rfl) ?_
 refine Lq (Q_ldG 0 rfl rfl rfl) ?_
 refine Lq ((Q_eql rfl rfl).as (v' := .bool true) rfl) ?_
 refine Lq (Q_move rfl) ?_
 refine Lq (Q_move rfl) ?_
 refine Lq (Q_move rfl) ?_
 refine Lq (Q_nilCheck rfl) ?_
 refine Lq (Q_fa0 rfl) ?_
 refine Lq (Q_ldG 0 rfl rfl rfl) ?_
 refine L_o rfl rfl rfl (O_call [0,1] [2,3] hm rfl rfl ?_)
 rintro _ _ ⟨rfl, rfl⟩
 refine JL.norm ?_
 refine Lq (Q_pickT rfl rfl) ?_
 refine Ln ?_
 refine J_condF rfl ?_
 refine J_skip ?_
 refine seqQ_normal ?_
 refine Sr ?_
 refine Lq (Q_assign rfl) ?_
 refine Ln ?_
 refine J_ret ?_
 exact retQ_ret _ [agC p ⟨ah, own, 0, 2, lv, lr, vv, vr, prop0 v, false, done, dec⟩ pv m, votA pv l] (.cons (RV_tmp rfl) .nil) ⟨rfl, rfl⟩ (Ent.re [0,1,3] rfl)
/-- Rule 5: a precommit. -/
theorem arule3_ok (S : SV) (out : List Wd) (hw : A.w0 = prop0 v) (hs : A.step = 2) (h0 : v ≠ []) (hse : A.seen = false) (hr : A.round = 0) (hV : Vots l v) (hc : cntK l 3 = 0) (hc2 : cntK l 2 = 1) (ho : out.length ≤ 1000) : Does Tryz.prog E 107 [.pointer (some ⟨p, 0, none⟩)] [agC p A pv (sayV b), votA pv l, cel b [S.v] 124, slc tWd true S out] fun r L => ∃ S' : SV, r = .bool true ∧ L = [agC p ((((A.sSeen true).sValid v 0).sLock v 0).sStep 3) pv (sayV b), votA pv l, cel b [S'.v] 124, slc tWd true S' (out ++ [vote0 3 v])] := by
 have hd := adecideF_ok E p pv A l v (sayV b) hV (by omega) (.inr hc)
 have hpv := aprevoteF_ok E p pv A (sayV b) (prop0 v) (by omega)
 have hpc := aprecT_ok E p pv b A l v S out hs h0 hse hr hV hc2 ho
 have hah := vahead_ok E pv l v hV
 obtain ⟨ah, own, round, step, lv, lr, vv, vr, w0, seen, done, dec⟩ := A
 dsimp only at hw hs hr hse
 subst hw hs hr hse
 refine Does.of Tryz.func107 rfl Tryz.ntmps107 rfl rfl fun F => ?_
 refine J.norm ?_
 refine Sr ?_
 refine Lq (Q_assign rfl) ?_
 refine Ln ?_
 refine J_seq ?_
 refine Sr ?_
 refine Lq (Q_move rfl) ?_
 refine L_o rfl rfl rfl (O_call [0,1] [2,3,4] hd rfl rfl ?_)
 rintro _ _ ⟨rfl, rfl⟩
 refine JL.norm ?_
 refine Ln ?_
 refine J_condF rfl ?_
 refine J_skip ?_
 refine seqQ_normal ?_
 refine J_seq ?_
 refine J_seq ?_
 refine DH [0] [0,1,2,3,4,5,6,7,9] (.quiet 0 (.quiet 1 (.quiet 2 (.quiet 3 (.quiet 4 (.quiet 5 (.quiet 6 (.quiet 7 (.loud 8 (.quiet 9 .done)))))))))) Tryz.mixed ?_
 refine Sq (Ent.re [0] rfl) rfl (Q_move rfl) ?_
 refine Sq (Ent.re [0] rfl) rfl (Q_nilCheck rfl) ?_
 refine Sq (Ent.re [0] rfl) rfl (Q_fa0 rfl) ?_
 refine Sq (Ent.re [0] rfl) rfl (Q_ldG 0 rfl rfl rfl) ?_
 refine Sq (Ent.re [0] rfl) rfl (Q_move rfl) ?_
 refine Sq (Ent.re [0] rfl) rfl (Q_nilCheck rfl) ?_
 refine Sq (Ent.re [0] rfl) rfl (Q_fa0 rfl) ?_
 refine Sq (Ent.re [0] rfl) rfl (Q_ldG 0 rfl rfl rfl) ?_
 refine S_o rfl rfl rfl rfl (O_call [1] [0,2,3,4] hah rfl rfl ?_)
 (rintro _ _ ⟨rfl, rfl⟩; refine ⟨_, fun _ => ⟨Ent.reN [1] rfl, Ent.refl _⟩, ?_⟩)
 refine JS.norm ?_
 refine Sq (Ent.re [1] rfl) rfl (Q_assign rfl) ?_
 refine S_nil ?_
 refine seqQ_normal ?_
 refine Sr ?_
 refine Lq (Q_move rfl) ?_
 refine Lq (Q_move rfl) ?_
 refine Lq (Q_nilCheck rfl) ?_
 refine Lq (Q_fa0 rfl) ?_
 refine Lq (Q_ldG 1 rfl rfl rfl) ?_
 refine Lq ((Q_gtr rfl rfl).as (v' := .bool false) rfl) ?_
 refine Ln ?_
 refine J_condF rfl ?_
 refine J_skip ?_
 refine seqQ_normal ?_
 refine J_seq ?_
 refine DH [1] [0,1,2,3,4,5,6,7,8] (.quiet 0 (.quiet 1 (.quiet 2 (.quiet 3 (.quiet 4 (.quiet 5 (.quiet 6 (.quiet 7 (.quiet 8 (.loud 9 (.loud 10 .done))))))))))) Tryz.mixed ?_
 refine Sq (Ent.re [1] rfl) rfl (Q_move rfl) ?_
 refine Sq (Ent.re [1] rfl) rfl (Q_move rfl) ?_
 refine Sq (Ent.re [1] rfl) rfl (Q_nilCheck rfl) ?_
 refine Sq (Ent.re [1] rfl) rfl (Q_fa0 rfl) ?_
 refine Sq (Ent.re [1] rfl) rfl (Q_ldG 0 rfl rfl rfl) ?_
 refine Sq (Ent.re [1] rfl) rfl (Q_nilCheck rfl) ?_
 refine Sq (Ent.re [1] rfl) rfl (Q_fa0 rfl) ?_
 refine Sq (Ent.re [1] rfl) rfl (Q_ia (o' := 10) 0 rfl rfl rfl (by decide) rfl) ?_
 refine Sq (Ent.re [1] rfl) rfl (Q_ldA 0 rfl rfl rfl) ?_
 refine S_o rfl rfl rfl rfl (O_alloc (fun b4 => ⟨_, fun _ => ⟨Ent.reN [2] rfl, Ent.refl _⟩, ?_⟩))
 refine JS.norm ?_
 refine S_s rfl rfl rfl (O_stW 0 rfl rfl rfl rfl ⟨[], free_no (by kernel_rfl), ?_⟩)
 refine JS.norm ?_
 refine S_nil ?_
 refine seqQ_normal ?_
 refine J_seq ?_
 refine Sr ?_
 refine Lq (Q_move rfl) ?_
 refine Lq (Q_ldA 0 rfl rfl rfl) ?_
 refine L_o rfl rfl rfl (O_call [2] [0,1,3,4,5] hpv rfl rfl ?_)
 rintro _ _ ⟨rfl, rfl⟩
 refine JL.norm ?_
 refine Lq (Q_move rfl) ?_
 refine Lq (Q_move rfl) ?_
 refine Lq (Q_ldA 1 rfl rfl rfl) ?_
 refine L_o rfl rfl rfl (O_call [0,2,3,4] [1,5] hpc rfl rfl ?_)
 rintro _ _ ⟨S', rfl, rfl⟩
 refine JL.norm ?_
 refine Lq (Q_pickF rfl rfl) ?_
 refine Ln ?_
 refine J_condT rfl ?_
 refine Sr ?_
 refine Lq (Q_assign rfl) ?_
 refine Ln ?_
 refine J_ret ?_
 refine seqQ_ret ?_
 exact retQ_ret _ [agC p (((((⟨ah, own, 0, 2, lv, lr, vv, vr, prop0 v, false, done, dec⟩ : Ag).sSeen true).sValid v 0).sLock v 0).sStep 3) pv (sayV b), votA pv l, cel b [S'.v] 124, slc tWd true S' (out ++ [vote0 3 v])] (.cons (RV_tmp rfl) .nil) ⟨S', rfl, rfl⟩ (Ent.re [0,1,2,3,5] rfl)
/-- No rule: precommitted. -/
theorem arule4_ok (m : Value) (hw : A.w0 = prop0 v) (hs : A.step = 3) (h0 : v ≠ []) (hr : A.round = 0) (hse : A.seen = true) (hV : Vots l v) (hc : cntK l 3 = 0) : Does Tryz.prog E 107 [.pointer (some ⟨p, 0, none⟩)] [agC p A pv m, votA pv l] fun r L => r = .bool false ∧ L = [agC p A pv m, votA pv l] := by
 have hd := adecideF_ok E p pv A l v m hV (by omega) (.inr hc)
 have hpv := aprevoteF_ok E p pv A m (prop0 v) (by omega)
 have hpc := aprecF2_ok E p pv A v m (by omega) h0 hse
 have hah := vahead_ok E pv l v hV
 obtain ⟨ah, own, round, step, lv, lr, vv, vr, w0, seen, done, dec⟩ := A
 dsimp only at hw hs hr hse
 subst hw hs hr hse
 refine Does.of Tryz.func107 rfl Tryz.ntmps107 rfl rfl fun F => ?_
 refine J.norm ?_
 refine Sr ?_
 refine Lq (Q_assign rfl) ?_
 refine Ln ?_
 refine J_seq ?_
 refine Sr ?_
 refine Lq (Q_move rfl) ?_
 refine L_o rfl rfl rfl (O_call [0,1] [2] hd rfl rfl ?_)
 rintro _ _ ⟨rfl, rfl⟩
 refine JL.norm ?_
 refine Ln ?_
 refine J_condF rfl ?_
 refine J_skip ?_
 refine seqQ_normal ?_
 refine J_seq ?_
 refine J_seq ?_
 refine DH [0] [0,1,2,3,4,5,6,7,9] (.quiet 0 (.quiet 1 (.quiet 2 (.quiet 3 (.quiet 4 (.quiet 5 (.quiet 6 (.quiet 7 (.loud 8 (.quiet 9 .done)))))))))) Tryz.mixed ?_
 refine Sq (Ent.re [0] rfl) rfl (Q_move rfl) ?_
 refine Sq (Ent.re [0] rfl) rfl (Q_nilCheck rfl) ?_
 refine Sq (Ent.re [0] rfl) rfl (Q_fa0 rfl) ?_
 refine Sq (Ent.re [0] rfl) rfl (Q_ldG 0 rfl rfl rfl) ?_
 refine Sq (Ent.re [0] rfl) rfl (Q_move rfl) ?_
 refine Sq (Ent.re [0] rfl) rfl (Q_nilCheck rfl) ?_
 refine Sq (Ent.re [0] rfl) rfl (Q_fa0 rfl) ?_
 refine Sq (Ent.re [0] rfl) rfl (Q_ldG 0 rfl rfl rfl) ?_
 refine S_o rfl rfl rfl rfl (O_call [1] [0,2] hah rfl rfl ?_)
 (rintro _ _ ⟨rfl, rfl⟩; refine ⟨_, fun _ => ⟨Ent.reN [1] rfl, Ent.refl _⟩, ?_⟩)
 refine JS.norm ?_
 refine Sq (Ent.re [1] rfl) rfl (Q_assign rfl) ?_
 refine S_nil ?_
 refine seqQ_normal ?_
 refine Sr ?_
 refine Lq (Q_move rfl) ?_
 refine Lq (Q_move rfl) ?_
 refine Lq (Q_nilCheck rfl) ?_
 refine Lq (Q_fa0 rfl) ?_
 refine Lq (Q_ldG 1 rfl rfl rfl) ?_
 refine Lq ((Q_gtr rfl rfl).as (v' := .bool false) rfl) ?_
 refine Ln ?_
 refine J_condF rfl ?_
 refine J_skip ?_
 refine seqQ_normal ?_
 refine J_seq ?_
 refine DH [1] [0,1,2,3,4,5,6,7,8] (.quiet 0 (.quiet 1 (.quiet 2 (.quiet 3 (.quiet 4 (.quiet 5 (.quiet 6 (.quiet 7 (.quiet 8 (.loud 9 (.loud 10 .done))))))))))) Tryz.mixed ?_
 refine Sq (Ent.re [1] rfl) rfl (Q_move rfl) ?_
 refine Sq (Ent.re [1] rfl) rfl (Q_move rfl) ?_
 refine Sq (Ent.re [1] rfl) rfl (Q_nilCheck rfl) ?_
 refine Sq (Ent.re [1] rfl) rfl (Q_fa0 rfl) ?_
 refine Sq (Ent.re [1] rfl) rfl (Q_ldG 0 rfl rfl rfl) ?_
 refine Sq (Ent.re [1] rfl) rfl (Q_nilCheck rfl) ?_
 refine Sq (Ent.re [1] rfl) rfl (Q_fa0 rfl) ?_
 refine Sq (Ent.re [1] rfl) rfl (Q_ia (o' := 10) 0 rfl rfl rfl (by decide) rfl) ?_
 refine Sq (Ent.re [1] rfl) rfl (Q_ldA 0 rfl rfl rfl) ?_
 refine S_o rfl rfl rfl rfl (O_alloc (fun b4 => ⟨_, fun _ => ⟨Ent.reN [2] rfl, Ent.refl _⟩, ?_⟩))
 refine JS.norm ?_
 refine S_s rfl rfl rfl (O_stW 0 rfl rfl rfl rfl ⟨[], free_no (by kernel_rfl), ?_⟩)
 refine JS.norm ?_
 refine S_nil ?_
 refine seqQ_normal ?_
 refine J_seq ?_
 refine Sr ?_
 refine Lq (Q_move rfl) ?_
 refine Lq (Q_ldA 0 rfl rfl rfl) ?_
 refine L_o rfl rfl rfl (O_call [2] [0,1,3] hpv rfl rfl ?_)
 rintro _ _ ⟨rfl, rfl⟩
 refine JL.norm ?_
 refine Lq (Q_move rfl) ?_
 refine Lq (Q_move rfl) ?_
 refine Lq (Q_ldA 1 rfl rfl rfl) ?_
 refine L_o rfl rfl rfl (O_call [0] [1,2,3] hpc rfl rfl ?_)
 rintro _ _ ⟨rfl, rfl⟩
 refine JL.norm ?_
 refine Lq (Q_pickF rfl rfl) ?_
 refine Ln ?_
 refine J_condF rfl ?_
 refine J_skip ?_
 refine seqQ_normal ?_
 refine J_seq ?_
 refine Sr ?_
 refine Lq (Q_move rfl) ?_
 refine Lq (Q_nilCheck rfl) ?_
 refine Lq (Q_fa0 rfl) ?_
 refine Lq (Q_ldG 0 rfl rfl rfl) ?_
 refine Lq ((Q_eql rfl rfl).as (v' := .bool false) rfl) ?_
 refine Lq (Q_move rfl) ?_
 refine L_n rfl rfl rfl ?_
 refine L_n rfl rfl rfl ?_
 refine L_n rfl rfl rfl ?_
 refine L_n rfl rfl rfl ?_
 refine L_n rfl rfl rfl ?_
 refine L_n rfl rfl rfl ?_
 refine Lq (Q_pickF rfl rfl) ?_
 refine Ln ?_
 refine J_condF rfl ?_
 refine J_skip ?_
 refine seqQ_normal ?_
 refine Sr ?_
 refine Lq (Q_assign rfl) ?_
 refine Ln ?_
 refine J_ret ?_
 exact retQ_ret _ [agC p ⟨ah, own, 0, 3, lv, lr, vv, vr, prop0 v, true, done, dec⟩ pv m, votA pv l] (.cons (RV_tmp rfl) .nil) ⟨rfl, rfl⟩ (Ent.re [0,2,3] rfl)
/-- Rule 1: a decision. -/
theorem arule5_ok (m : Value) (hw : A.w0 = prop0 v) (h0 : v ≠ []) (hV : Vots l v) (hc : cntK l 3 = 1) : Does Tryz.prog E 107 [.pointer (some ⟨p, 0, none⟩)] [agC p A pv m, votA pv l] fun r L => r = .bool true ∧ L = [agC p ((A.sDone true).sDec v) pv m, votA pv l] := by
 have hd := adecideT_ok E p pv A l v m hV (by omega) h0 (by rw [hw]) (by omega)
 refine Does.of Tryz.func107 rfl Tryz.ntmps107 rfl rfl fun F => ?_
 refine J.norm ?_
 refine Sr ?_
 refine Lq (Q_assign rfl) ?_
 refine Ln ?_
 refine J_seq ?_
 refine Sr ?_
 refine Lq (Q_move rfl) ?_
 refine L_o rfl rfl rfl (O_call [0,1] [2] hd rfl rfl ?_)
 rintro _ _ ⟨rfl, rfl⟩
 refine JL.norm ?_
 refine Ln ?_
 refine J_condT rfl ?_
 refine Sr ?_
 refine Lq (Q_assign rfl) ?_
 refine Ln ?_
 refine J_ret ?_
 refine seqQ_ret ?_
 exact retQ_ret _ [agC p ((A.sDone true).sDec v) pv m, votA pv l] (.cons (RV_tmp rfl) .nil) ⟨rfl, rfl⟩ (Ent.refl _)
end
end Go.Proofs
/- An agreement of one node: started; a word taken. -/
set_option autoImplicit false
namespace Go.Proofs
open Go.SL Go.Proofs.Bt
attribute [local irreducible] J JL QOp JOp seqQ blockQ loopQ retQ slc cel hex star pur stars Does RV Ent pAt scopeQ
attribute [local irreducible] votA agL zer63 bz122
section
variable (E : World) (p pv : Nat)
theorem ahear_ok (f : Nat) (hf : HasFn Tryz.prog f) (caps : List Value) (A A' : Ag) (out : List Wd) (X1 X2 X3 X4 : HProp)
 (hdo : ∀ b : Nat, Does Tryz.prog E f caps [agC p A pv (sayV b), cel b [SV.nil.v] 124, slc tWd true SV.nil [], X1, X2, X3] fun r L => ∃ S : SV, r = .tuple #[] ∧ L = [agC p A' pv (sayV b), cel b [S.v] 124, slc tWd true S out, X1, X2, X4]) :
 Does Tryz.prog E 85 [.pointer (some ⟨p, 0, none⟩), .func (.func f) #[] caps.toArray] [agC p A pv .nilFunc, X1, X2, X3] fun r L => ∃ S : SV, r = S.v ∧ L = [agC p A' pv .nilFunc, slc tWd true S out, X1, X2, X4] := by
 refine Does.of Tryz.func85 rfl Tryz.ntmps85 rfl rfl fun F => ?_
 refine J.norm ?_
 refine Sr ?_
 refine Lq (Q_assign rfl) ?_
 refine Ln ?_
 refine Sr ?_
 refine L_o rfl rfl rfl (O_alloc (fun b5 => ?_))
 refine JL.norm ?_
 refine Ln ?_
 refine Sr ?_
 refine Lq (Q_move rfl) ?_
 refine Lq (Q_makeFunc (xs := []) (ys := [.tmp 5]) (vs := []) (us := [.pointer (some ⟨b5, 0, none⟩)]) rfl rfl) ?_
 refine Lq (Q_build rfl) ?_
 refine Lq (Q_nilCheck rfl) ?_
 refine Lq (Q_fa0 rfl) ?_
 refine L_s rfl rfl (O_stP 1 rfl rfl rfl rfl ?_)
 refine JL.norm ?_
 refine Ln ?_
 refine J_seq ?_
 refine J.ent (Ent.mk fun _ _ h => (h.lay_nil tWd true : Sat _ _ (slc tWd true SV.nil [] :: _))) ?_
 refine J_region ?_
 refine Lq (Q_move rfl) ?_
 refine L_o rfl rfl rfl (O_dyn [2,1,0,3,4,5] [6] rfl rfl (by simp) (hdo b5) rfl ?_)
 rintro _ _ ⟨S, rfl, rfl⟩
 refine JL.norm ?_
 refine Ln ?_
 refine Sr ?_
 refine Lq (Q_move rfl) ?_
 refine Lq (Q_build rfl) ?_
 refine Lq (Q_nilCheck rfl) ?_
 refine Lq (Q_fa0 rfl) ?_
 refine L_s rfl rfl (O_stP 0 rfl rfl rfl rfl ?_)
 refine JL.norm ?_
 refine Ln ?_
 refine Sr ?_
 refine Lq (Q_ld 1 rfl rfl rfl rfl) ?_
 refine Lq (Q_assign rfl) ?_
 refine Ln ?_
 refine J_ret ?_
 exact retQ_ret _ [agC p A' pv .nilFunc, slc tWd true S out, X1, X2, X4] (.cons (RV_tmp rfl) .nil) ⟨S, rfl, rfl⟩ (Ent.re [0,2,3,4,5,6] rfl)
theorem astartC_ok (b b1 : Nat) (h : Nat) (own : Ky) (hh : h ≤ 64) (X Y : HProp) : Does Tryz.prog E 86 [.pointer (some ⟨b1, 0, none⟩)] [agC p (ag0 h own) pv (sayV b), cel b [SV.nil.v] 124, slc tWd true SV.nil [], cel b1 [.pointer (some ⟨p, 0, none⟩)] 64, X, Y] fun r L => ∃ S : SV, r = .tuple #[] ∧ L = [agC p ((((ag0 h own).sRound 0).sStep 1).sSeen false) pv (sayV b), cel b [S.v] 124, slc tWd true S [prop0 own], cel b1 [.pointer (some ⟨p, 0, none⟩)] 64, X, Y] := by
 have hb := abegin_ok E p pv b (ag0 h own) SV.nil [] hh rfl (by decide)
 refine Does.of Tryz.func86 rfl Tryz.ntmps86 rfl rfl fun F => ?_
 refine J.norm ?_
 refine J_region ?_
 refine Lq (Q_ld 3 rfl rfl rfl rfl) ?_
 refine L_o rfl rfl rfl (O_call [0,1,2] [3,4,5,6] hb rfl rfl ?_)
 rintro _ _ ⟨S, rfl, rfl⟩
 refine JL.norm ?_
 refine JL_nil ?_
 exact retQ_normal [] [agC p ((((ag0 h own).sRound 0).sStep 1).sSeen false) pv (sayV b), cel b [S.v] 124, slc tWd true S [prop0 own], cel b1 [.pointer (some ⟨p, 0, none⟩)] 64, X, Y] .nil ⟨S, rfl, rfl⟩ (Ent.refl _)
theorem astart_ok (h : Nat) (own : Ky) (hh : h ≤ 64) : Does Tryz.prog E 59 [.pointer (some ⟨p, 0, none⟩)] [agC p (ag0 h own) pv .nilFunc] fun r L => ∃ S : SV, r = S.v ∧ L = [agC p ((((ag0 h own).sRound 0).sStep 1).sSeen false) pv .nilFunc, slc tWd true S [prop0 own]] := by
 refine Does.of Tryz.func59 rfl Tryz.ntmps59 rfl rfl fun F => ?_
 refine J.norm ?_
 refine Sr ?_
 refine L_o rfl rfl rfl (O_box rfl fun b1 => ?_)
 refine Lq (Q_assign rfl) ?_
 refine Ln ?_
 refine J_seq ?_
 refine Sr ?_
 refine Lq (Q_ld 0 rfl rfl rfl rfl) ?_
 refine Lq ((Q_peql rfl rfl).as (v' := .bool false) rfl) ?_
 refine Lq (Q_move rfl) ?_
 refine Lq (Q_ld 0 rfl rfl rfl rfl) ?_
 refine Lq (Q_nilCheck rfl) ?_
 refine Lq (Q_fa0 rfl) ?_
 refine Lq (Q_ldG 1 rfl rfl rfl) ?_
 refine Lq ((Q_geq rfl rfl).as (v' := .bool false) rfl) ?_
 refine Lq (Q_pickF rfl rfl) ?_
 refine Ln ?_
 refine J_condF rfl ?_
 refine J_skip ?_
 refine seqQ_normal ?_
 refine J_seq ?_
 refine J.ent (Ent.stars_nil.trans (Ent.re [2,1,0,3] rfl)) ?_
 refine J.ent (L' := [agC p (ag0 h own) pv .nilFunc, cel b1 [.pointer (some ⟨p, 0, none⟩)] 64, stars [], stars [], F]) (Ent.stars_nil.trans (Ent.pick [1,2,0,3,4] _ rfl)) ?_
 have hhe := fun X Y => ahear_ok E p pv 86 inferInstance [.pointer (some ⟨b1, 0, none⟩)] (ag0 h own) ((((ag0 h own).sRound 0).sStep 1).sSeen false) [prop0 own] (cel b1 [.pointer (some ⟨p, 0, none⟩)] 64) X Y Y (fun b => astartC_ok E p pv b b1 h own hh X Y)
 refine J_region ?_
 refine Lq (Q_ld 1 rfl rfl rfl rfl) ?_
 refine Lq (Q_makeFunc (xs := []) (ys := [.tmp 1]) (vs := []) (us := [.pointer (some ⟨b1, 0, none⟩)]) rfl rfl) ?_
 refine L_o rfl rfl rfl (O_call [0,1,2,3] [4] (hhe (stars []) (stars [])) rfl rfl ?_)
 rintro _ _ ⟨S, rfl, rfl⟩
 refine JL.norm ?_
 refine Lq (Q_assign rfl) ?_
 refine Ln ?_
 refine J_ret ?_
 exact retQ_ret _ [agC p ((((ag0 h own).sRound 0).sStep 1).sSeen false) pv .nilFunc, slc tWd true S [prop0 own]] (.cons (RV_tmp rfl) .nil) ⟨S, rfl, rfl⟩ (Ent.re [0,1,5] rfl)
/-- A word taken, where one rule applies behind it. -/
theorem atakeC_ok (b b2 b3 : Nat) (w : Wd) (A A1 A2 : Ag) (l l1 : List Wd) (out : List Wd)
 (hcount : Does Tryz.prog E 106 [.pointer (some ⟨p, 0, none⟩), .agg (wdV w).toArray] [agC p A pv (sayV b), votA pv l] fun r L => r = .bool true ∧ L = [agC p A1 pv (sayV b), votA pv l1])
 (hrule : Does Tryz.prog E 107 [.pointer (some ⟨p, 0, none⟩)] [agC p A1 pv (sayV b), votA pv l1, cel b [SV.nil.v] 124, slc tWd true SV.nil []] fun r L => ∃ S' : SV, r = .bool true ∧ L = [agC p A2 pv (sayV b), votA pv l1, cel b [S'.v] 124, slc tWd true S' out])
 (hd1 : A1.done = false) (hend : A2.done = true ∨ (A2.done = false ∧ Does Tryz.prog E 107 [.pointer (some ⟨p, 0, none⟩)] [agC p A2 pv (sayV b), votA pv l1] fun r L => r = .bool false ∧ L = [agC p A2 pv (sayV b), votA pv l1])) :
 Does Tryz.prog E 105 [.pointer (some ⟨b2, 0, none⟩), .pointer (some ⟨b3, 0, none⟩)] [agC p A pv (sayV b), cel b [SV.nil.v] 124, slc tWd true SV.nil [], cel b2 [.pointer (some ⟨p, 0, none⟩)] 64, cel b3 (wdV w) 59, votA pv l]
  fun r L => ∃ S : SV, r = .tuple #[] ∧ L = [agC p A2 pv (sayV b), cel b [S.v] 124, slc tWd true S out, cel b2 [.pointer (some ⟨p, 0, none⟩)] 64, cel b3 (wdV w) 59, votA pv l1] := by
 refine Does.of Tryz.func105 rfl Tryz.ntmps105 rfl rfl fun F => ?_
 refine J.norm ?_
 refine J_seq ?_
 refine Sr ?_
 refine Lq (Q_ld 3 rfl rfl rfl rfl) ?_
 refine Lq (Q_ldA 4 rfl rfl rfl) ?_
 refine L_o rfl rfl rfl (O_call [0,5] [1,2,3,4,6] hcount rfl rfl ?_)
 rintro _ _ ⟨rfl, rfl⟩
 refine JL.norm ?_
 refine Lq ((Q_not rfl).as (v' := .bool false) rfl) ?_
 refine Ln ?_
 refine J_condF rfl ?_
 refine J_skip ?_
 refine seqQ_normal ?_
 refine J_block ?_
 refine J_loop (fun i : Bool × SV × List Wd => (i.1 = false → i.2 = (SV.nil, [])) ∧ (i.1 = true → i.2.2 = out)) (fun i => [(0, .pointer (some ⟨b2, 0, none⟩)), (1, .pointer (some ⟨b3, 0, none⟩))]) (fun i => [agC p (if i.1 = true then A2 else A1) pv (sayV b), votA pv l1, cel b [i.2.1.v] 124, slc tWd true i.2.1 i.2.2, cel b2 [.pointer (some ⟨p, 0, none⟩)] 64, cel b3 (wdV w) 59, F]) (fun i => if i.1 = true then 0 else 1) (false, SV.nil, []) ⟨fun _ => rfl, fun h => Bool.noConfusion h⟩ ⟨rfl, rfl, trivial⟩ (Ent.refl _) ?_
 rintro ⟨u, S, o⟩ ⟨h1, h2⟩
 cases u with
 | false =>
  have h3 := h1 rfl
  simp only [Prod.mk.injEq] at h3
  obtain ⟨rfl, rfl⟩ := h3
  dsimp only
  rw [if_neg (by decide)]
  refine J_seq ?_
  refine Sr ?_
  refine Lq (Q_ld 4 rfl rfl rfl rfl) ?_
  refine Lq (Q_nilCheck rfl) ?_
  refine Lq (Q_fa0 rfl) ?_
  refine Lq (Q_ldG 0 rfl rfl rfl) ?_
  refine Lq ((Q_not rfl).as (v' := .bool true) (by show Value.bool (!A1.done) = _; rw [hd1]; rfl)) ?_
  refine Lq (Q_move rfl) ?_
  refine Lq (Q_ld 4 rfl rfl rfl rfl) ?_
  refine L_o rfl rfl rfl (O_call [0,1,2,3] [4,5,6] hrule rfl rfl ?_)
  rintro _ _ ⟨S', rfl, rfl⟩
  refine JL.norm ?_
  refine Lq (Q_pickT rfl rfl) ?_
  refine Ln ?_
  refine J_condT rfl ?_
  refine J_skip ?_
  refine seqQ_normal ?_
  refine J_block ?_
  refine J_skip ?_
  refine blockQ_normal ?_
  exact loopQ_normal (true, S', out) ⟨fun h => Bool.noConfusion h, fun _ => rfl⟩ Nat.zero_lt_one ⟨rfl, rfl, trivial⟩ (Ent.refl _)
 | true =>
  obtain rfl : o = out := h2 rfl
  dsimp only
  rw [if_pos rfl]
  rcases hend with hd2 | ⟨hd2, hr2⟩
  ·refine J_seq ?_
   refine Sr ?_
   refine Lq (Q_ld 4 rfl rfl rfl rfl) ?_
   refine Lq (Q_nilCheck rfl) ?_
   refine Lq (Q_fa0 rfl) ?_
   refine Lq (Q_ldG 0 rfl rfl rfl) ?_
   refine Lq ((Q_not rfl).as (v' := .bool false) (by show Value.bool (!A2.done) = _; rw [hd2]; rfl)) ?_
   refine Lq (Q_move rfl) ?_
   refine L_n rfl rfl rfl ?_
   refine L_n rfl rfl rfl ?_
   refine Lq (Q_pickF rfl rfl) ?_
   refine Ln ?_
   refine J_condF rfl ?_
   refine J_exit ?_
   refine seqQ_exit ?_
   refine loopQ_exit ?_
   refine blockQ_hit ?_
   exact retQ_normal [] [agC p A2 pv (sayV b), cel b [S.v] 124, slc tWd true S o, cel b2 [.pointer (some ⟨p, 0, none⟩)] 64, cel b3 (wdV w) 59, votA pv l1] .nil ⟨S, rfl, rfl⟩ (Ent.re [0,2,3,4,5,1,6] rfl)
  ·refine J_seq ?_
   refine Sr ?_
   refine Lq (Q_ld 4 rfl rfl rfl rfl) ?_
   refine Lq (Q_nilCheck rfl) ?_
   refine Lq (Q_fa0 rfl) ?_
   refine Lq (Q_ldG 0 rfl rfl rfl) ?_
   refine Lq ((Q_not rfl).as (v' := .bool true) (by show Value.bool (!A2.done) = _; rw [hd2]; rfl)) ?_
   refine Lq (Q_move rfl) ?_
   refine Lq (Q_ld 4 rfl rfl rfl rfl) ?_
   refine L_o rfl rfl rfl (O_call [0,1] [2,3,4,5,6] hr2 rfl rfl ?_)
   rintro _ _ ⟨rfl, rfl⟩
   refine JL.norm ?_
   refine Lq (Q_pickT rfl rfl) ?_
   refine Ln ?_
   refine J_condF rfl ?_
   refine J_exit ?_
   refine seqQ_exit ?_
   refine loopQ_exit ?_
   refine blockQ_hit ?_
   exact retQ_normal [] [agC p A2 pv (sayV b), cel b [S.v] 124, slc tWd true S o, cel b2 [.pointer (some ⟨p, 0, none⟩)] 64, cel b3 (wdV w) 59, votA pv l1] .nil ⟨S, rfl, rfl⟩ (Ent.re [0,2,3,4,5,1,6] rfl)
theorem atake_ok (w : Wd) (A A1 A2 : Ag) (l l1 : List Wd) (out : List Wd) (hr : A.round = 0) (hd : A.done = false)
 (hcount : ∀ b, Does Tryz.prog E 106 [.pointer (some ⟨p, 0, none⟩), .agg (wdV w).toArray] [agC p A pv (sayV b), votA pv l] fun r L => r = .bool true ∧ L = [agC p A1 pv (sayV b), votA pv l1])
 (hrule : ∀ b, Does Tryz.prog E 107 [.pointer (some ⟨p, 0, none⟩)] [agC p A1 pv (sayV b), votA pv l1, cel b [SV.nil.v] 124, slc tWd true SV.nil []] fun r L => ∃ S' : SV, r = .bool true ∧ L = [agC p A2 pv (sayV b), votA pv l1, cel b [S'.v] 124, slc tWd true S' out])
 (hd1 : A1.done = false) (hend : ∀ b, A2.done = true ∨ (A2.done = false ∧ Does Tryz.prog E 107 [.pointer (some ⟨p, 0, none⟩)] [agC p A2 pv (sayV b), votA pv l1] fun r L => r = .bool false ∧ L = [agC p A2 pv (sayV b), votA pv l1])) :
 Does Tryz.prog E 83 [.pointer (some ⟨p, 0, none⟩), .agg (wdV w).toArray] [agC p A pv .nilFunc, votA pv l] fun r L => ∃ S : SV, r = S.v ∧ L = [agC p A2 pv .nilFunc, slc tWd true S out, votA pv l1] := by
 refine Does.of Tryz.func83 rfl Tryz.ntmps83 rfl rfl fun F => ?_
 refine J.norm ?_
 refine Sr ?_
 refine L_o rfl rfl rfl (O_box rfl fun b2 => ?_)
 refine L_o rfl rfl rfl (O_box rfl fun b3 => ?_)
 refine Lq (Q_assign rfl) ?_
 refine Ln ?_
 refine J_seq ?_
 refine Sr ?_
 refine Lq (Q_ld 1 rfl rfl rfl rfl) ?_
 refine Lq ((Q_peql rfl rfl).as (v' := .bool false) rfl) ?_
 refine Lq (Q_move rfl) ?_
 refine Lq (Q_ld 1 rfl rfl rfl rfl) ?_
 refine Lq (Q_nilCheck rfl) ?_
 refine Lq (Q_fa0 rfl) ?_
 refine Lq (Q_ldG 2 rfl rfl rfl) ?_
 refine Lq ((Q_lss rfl rfl).as (v' := .bool false) (congrArg Value.bool (decide_eq_false (by show ¬ A.round < 0; omega)))) ?_
 refine Lq (Q_pickF rfl rfl) ?_
 refine Lq (Q_move rfl) ?_
 refine Lq (Q_ld 1 rfl rfl rfl rfl) ?_
 refine Lq (Q_nilCheck rfl) ?_
 refine Lq (Q_fa0 rfl) ?_
 refine Lq ((Q_ldG 2 rfl rfl rfl).as (v' := .bool false) (congrArg Value.bool hd)) ?_
 refine Lq (Q_pickF rfl rfl) ?_
 refine Ln ?_
 refine J_condF rfl ?_
 refine J_skip ?_
 refine seqQ_normal ?_
 refine J_seq ?_
 have hhe := ahear_ok E p pv 105 inferInstance [.pointer (some ⟨b2, 0, none⟩), .pointer (some ⟨b3, 0, none⟩)] A A2 out (cel b2 [.pointer (some ⟨p, 0, none⟩)] 64) (cel b3 (wdV w) 59) (votA pv l) (votA pv l1) (fun b => atakeC_ok E p pv b b2 b3 w A A1 A2 l l1 out (hcount b) (hrule b) hd1 (hend b))
 refine J_region ?_
 refine Lq (Q_ld 1 rfl rfl rfl rfl) ?_
 refine Lq (Q_makeFunc (xs := []) (ys := [.tmp 2, .tmp 3]) (vs := []) (us := [.pointer (some ⟨b2, 0, none⟩), .pointer (some ⟨b3, 0, none⟩)]) rfl rfl) ?_
 refine L_o rfl rfl rfl (O_call [2,1,0,3] [4] hhe rfl rfl ?_)
 rintro _ _ ⟨S, rfl, rfl⟩
 refine JL.norm ?_
 refine Lq (Q_assign rfl) ?_
 refine Ln ?_
 refine J_ret ?_
 exact retQ_ret _ [agC p A2 pv .nilFunc, slc tWd true S out, votA pv l1] (.cons (RV_tmp rfl) .nil) ⟨S, rfl, rfl⟩ (Ent.re [0,1,4,5] rfl)
theorem adecided_ok (A : Ag) (m : Value) : Does Tryz.prog E 82 [.pointer (some ⟨p, 0, none⟩)] [agC p A pv m] fun r L => r = .tuple #[str A.dec, .bool A.done] ∧ L = [agC p A pv m] := by
 refine Does.of Tryz.func82 rfl Tryz.ntmps82 rfl rfl fun F => ?_
 refine J.norm ?_
 refine Sr ?_
 refine Lq (Q_assign rfl) ?_
 refine Lq (Q_assign rfl) ?_
 refine Ln ?_
 refine J_seq ?_
 refine Sr ?_
 refine Lq (Q_move rfl) ?_
 refine Lq ((Q_peql rfl rfl).as (v' := .bool false) rfl) ?_
 refine Ln ?_
 refine J_condF rfl ?_
 refine J_skip ?_
 refine seqQ_normal ?_
 refine J_seq ?_
 refine DL [0,1,2,3,4,5,6,7,8,9] (.quiet 0 (.quiet 1 (.quiet 2 (.quiet 3 (.quiet 4 (.quiet 5 (.quiet 6 (.quiet 7 (.quiet 8 (.quiet 9 .done)))))))))) Tryz.mixed ?_
 refine Sq (Ent.refl _) rfl (Q_move rfl) ?_
 refine Sq (Ent.refl _) rfl (Q_nilCheck rfl) ?_
 refine Sq (Ent.refl _) rfl (Q_fa0 rfl) ?_
 refine Sq (Ent.refl _) rfl (Q_ldG 0 rfl rfl rfl) ?_
 refine Sq (Ent.refl _) rfl (Q_move rfl) ?_
 refine Sq (Ent.refl _) rfl (Q_nilCheck rfl) ?_
 refine Sq (Ent.refl _) rfl (Q_fa0 rfl) ?_
 refine Sq (Ent.refl _) rfl (Q_ldG 0 rfl rfl rfl) ?_
 refine Sq (Ent.refl _) rfl (Q_assign rfl) ?_
 refine Sq (Ent.refl _) rfl (Q_assign rfl) ?_
 refine S_nil ?_
 refine seqQ_normal ?_
 refine J_ret ?_
 exact retQ_ret _ [agC p A pv m] (.cons (RV_tmp rfl) (.cons (RV_tmp rfl) .nil)) ⟨rfl, rfl⟩ (Ent.refl _)
end
end Go.Proofs
/- The sum of a text, in plain Lean, and that one byte's change changes it. -/
set_option autoImplicit false
namespace Go.Proofs
def crcStep (c : Nat) : Nat := (c / 2) ^^^ (if c % 2 = 1 then 2197175160 else 0)
def crcN : Nat → Nat → Nat
 | 0, c => c
 | k + 1, c => crcStep (crcN k c)
def crcB (c : Nat) (b : UInt8) : Nat := crcN 8 (c ^^^ b.toNat)
def crcMore (c : Nat) (s : List UInt8) : Nat := s.foldl crcB c
def crc (s : List UInt8) : Nat := 4294967295 ^^^ crcMore 4294967295 s
theorem crcStep_lt (c : Nat) (h : c < 2 ^ 32) : crcStep c < 2 ^ 32 := by
 unfold crcStep
 refine Nat.xor_lt_two_pow (by omega) ?_
 split <;> decide
theorem crcN_lt (k c : Nat) (h : c < 2 ^ 32) : crcN k c < 2 ^ 32 := by
 induction k with
 | zero => exact h
 | succ k ih => exact crcStep_lt _ ih
theorem crcB_lt (c : Nat) (b : UInt8) (h : c < 2 ^ 32) : crcB c b < 2 ^ 32 :=
 crcN_lt _ _ (Nat.xor_lt_two_pow h (by have := b.toNat_lt; omega))
theorem crcMore_lt (s : List UInt8) : ∀ c, c < 2 ^ 32 → crcMore c s < 2 ^ 32 := by
 induction s with
 | nil => intro c h; exact h
 | cons b s ih => intro c h; exact ih _ (crcB_lt c b h)
theorem crc_lt (s : List UInt8) : crc s < 2 ^ 32 := Nat.xor_lt_two_pow (by decide) (crcMore_lt s _ (by decide))
theorem crcMore_take (c : Nat) (s : List UInt8) (k : Nat) (h : k < s.length) : crcMore c (s.take (k + 1)) = crcB (crcMore c (s.take k)) s[k] := by
 unfold crcMore
 rw [List.take_succ_eq_append_getElem h, List.foldl_append]
 rfl
theorem crcMore_append (c : Nat) (s t : List UInt8) : crcMore c (s ++ t) = crcMore (crcMore c s) t := by
 unfold crcMore; rw [List.foldl_append]
end Go.Proofs
/- Slots, in plain Lean: their words, whether they are right, which is told. -/
set_option autoImplicit false
namespace Go.Proofs
def be (s : List UInt8) : Nat := s.foldl (fun a b => a * 256 + b.toNat) 0
theorem be_snoc (s : List UInt8) (b : UInt8) : be (s ++ [b]) = be s * 256 + b.toNat := by simp [be, List.foldl_append]
theorem be_lt_aux (s : List UInt8) : ∀ a m : Nat, a < m → s.foldl (fun a b => a * 256 + b.toNat) a < m * 256 ^ s.length := by
 induction s with
 | nil => intro a m h; simpa using h
 | cons b s ih =>
  intro a m h
  have hb := b.toNat_lt
  have := ih (a * 256 + b.toNat) (m * 256) (by omega)
  rw [List.length_cons, Nat.pow_succ, Nat.mul_comm (256 ^ s.length) 256, ← Nat.mul_assoc]
  exact this
theorem be_lt (s : List UInt8) : be s < 256 ^ s.length := by have := be_lt_aux s 0 1 (by omega); rwa [Nat.one_mul] at this
theorem be_lt4 (s : List UInt8) (n : Nat) (h : s.length ≤ n) : be s < 256 ^ n := Nat.lt_of_lt_of_le (be_lt s) (Nat.pow_le_pow_right (by decide) h)
/-- The word j when k bytes have been taken. -/
def wd (l : List UInt8) (k j : Nat) : Nat := be (((l.take k).drop (4 * j)).take 4)
theorem wd_lt24 (l : List UInt8) (k : Nat) : wd l k (k / 4) < 2 ^ 24 := be_lt4 _ 3 (by simp; omega)
theorem wd_at (l : List UInt8) (k : Nat) (h : k < l.length) : wd l (k + 1) (k / 4) = wd l k (k / 4) * 256 + l[k].toNat := by
 unfold wd
 have e : l.take (k + 1) = l.take k ++ [l[k]] := List.take_succ_eq_append_getElem h
 have hlen : (l.take k).length = k := by simp; omega
 have e1 : ((l.take k).drop (4 * (k / 4))).take 4 = (l.take k).drop (4 * (k / 4)) := List.take_of_length_le (by rw [List.length_drop, hlen]; omega)
 have e2 : ((l.take k).drop (4 * (k / 4)) ++ [l[k]]).take 4 = (l.take k).drop (4 * (k / 4)) ++ [l[k]] := List.take_of_length_le (by rw [List.length_append, List.length_drop, hlen]; simp; omega)
 rw [e, List.drop_append_of_le_length (by omega), e1, e2, be_snoc]
theorem wd_other (l : List UInt8) (k j : Nat) (h : k < l.length) (hj : j ≠ k / 4) : wd l (k + 1) j = wd l k j := by
 unfold wd
 have e : l.take (k + 1) = l.take k ++ [l[k]] := List.take_succ_eq_append_getElem h
 have hlen : (l.take k).length = k := by simp; omega
 by_cases hlt : j < k / 4
 ·rw [e, List.drop_append_of_le_length (by omega), List.take_append_of_le_length (by simp; omega)]
 ·rw [List.drop_of_length_le (by simp; omega), List.drop_of_length_le (by simp; omega)]
theorem wd_or (l : List UInt8) (k : Nat) (h : k < l.length) : (wd l k (k / 4) * 2 ^ 8 % 2 ^ 32 ||| l[k].toNat % 2 ^ 32) = wd l (k + 1) (k / 4) := by
 have h1 := wd_lt24 l k
 have h2 := l[k].toNat_lt
 rw [wd_at l k h, Nat.mod_eq_of_lt (by omega), Nat.mod_eq_of_lt (by omega), Nat.mul_comm]
 have := Nat.two_pow_add_eq_or_of_lt (i := 8) (b := l[k].toNat) (by omega) (wd l k (k / 4))
 rw [← this]
/-- The word j. -/
def nw (l : List UInt8) (j : Nat) : Nat := be ((l.drop (4 * j)).take 4)
theorem nw_lt (l : List UInt8) (j : Nat) : nw l j < 2 ^ 32 := be_lt4 _ 4 (by simp; omega)
theorem wd_12 (l : List UInt8) (j : Nat) (h : j < 3) : wd l 12 j = nw l j := by
 unfold wd nw
 rw [List.drop_take, List.take_take, Nat.min_eq_left (by omega)]
def rightB (l : List UInt8) : Bool := decide (12 ≤ l.length) && (decide (nw l 0 = crc (l.drop 4)) && decide (nw l 2 = (l.length - 12) % 2 ^ 32))
def told (a b : List UInt8) : Int := if rightB b = true ∧ (rightB a = false ∨ nw a 1 < nw b 1) then 1 else if rightB a = true then 0 else -1
def four (n : Nat) : List UInt8 := [UInt8.ofNat (n / 2 ^ 24), UInt8.ofNat (n / 2 ^ 16), UInt8.ofNat (n / 2 ^ 8), UInt8.ofNat n]
end Go.Proofs
/- Texts one behind the other, in plain Lean. -/
set_option autoImplicit false
namespace Go.Proofs
def texts (l : List (List UInt8)) : List UInt8 := l.flatMap fun s => four s.length ++ s
theorem texts_succ (l : List (List UInt8)) (k : Nat) (h : k < l.length) : texts (l.take (k + 1)) = texts (l.take k) ++ (four l[k].length ++ l[k]) := by
 unfold texts
 rw [List.take_succ_eq_append_getElem h, List.flatMap_append]
 simp
theorem texts_le (l : List (List UInt8)) (k : Nat) : (texts (l.take k)).length ≤ (texts l).length := by
 have e : texts l = texts (l.take k) ++ texts (l.drop k) := by
  unfold texts
  rw [← List.flatMap_append, List.take_append_drop]
 rw [e, List.length_append]; omega
theorem or4 (a b c d : Nat) (hb : b < 256) (hc : c < 256) (hd : d < 256) : (a * 2 ^ 24 ||| b * 2 ^ 16 ||| c * 2 ^ 8 ||| d) = ((a * 256 + b) * 256 + c) * 256 + d := by
 have h1 := Nat.two_pow_add_eq_or_of_lt (i := 24) (b := b * 2 ^ 16) (by omega) a
 have h2 := Nat.two_pow_add_eq_or_of_lt (i := 16) (b := c * 2 ^ 8) (by omega) (a * 2 ^ 8 + b)
 have h3 := Nat.two_pow_add_eq_or_of_lt (i := 8) (b := d) (by omega) ((a * 2 ^ 8 + b) * 2 ^ 8 + c)
 rw [Nat.mul_comm a, ← h1, show 2 ^ 24 * a + b * 2 ^ 16 = 2 ^ 16 * (a * 2 ^ 8 + b) by omega, ← h2, show 2 ^ 16 * (a * 2 ^ 8 + b) + c * 2 ^ 8 = 2 ^ 8 * ((a * 2 ^ 8 + b) * 2 ^ 8 + c) by omega, ← h3]
 omega
theorem be4 (s : List UInt8) (h : 4 ≤ s.length) : be (s.take 4) = ((s[0].toNat * 256 + s[1].toNat) * 256 + s[2].toNat) * 256 + s[3].toNat := by
 match s, h with
 | a :: b :: c :: d :: r, _ => simp [be]
/-- The text at the beginning, and the rest. -/
def nextT (s : List UInt8) : Option (List UInt8 × List UInt8) :=
 if s.length < 4 then none else if (s.drop 4).length < be (s.take 4) then none else some ((s.drop 4).take (be (s.take 4)), (s.drop 4).drop (be (s.take 4)))
theorem nextT_lt {s t r : List UInt8} (h : nextT s = some (t, r)) : r.length < s.length ∧ t.length ≤ s.length := by
 unfold nextT at h
 split at h
 ·cases h
 ·split at h
  ·cases h
  ·simp only [Option.some.injEq, Prod.mk.injEq] at h
   obtain ⟨rfl, rfl⟩ := h
   simp; omega
def readT (s : List UInt8) : Option (List (List UInt8)) :=
 if s = [] then some [] else match h : nextT s with
  | none => none
  | some (t, r) => (readT r).map (t :: ·)
termination_by s.length
decreasing_by exact (nextT_lt h).1
theorem readT_nil : readT [] = some [] := by rw [readT]; rfl
theorem readT_none {s : List UInt8} (h : s ≠ []) (h2 : nextT s = none) : readT s = none := by
 rw [readT, if_neg h]
 split
 ·rfl
 ·rename_i h3; rw [h2] at h3; cases h3
theorem readT_some {s t r : List UInt8} (h : s ≠ []) (h2 : nextT s = some (t, r)) : readT s = (readT r).map (t :: ·) := by
 rw [readT, if_neg h]
 split
 ·rename_i h3; rw [h2] at h3; cases h3
 ·rename_i t' r' h3; rw [h2] at h3; cases h3; rfl
def readL (s : List UInt8) : List (List UInt8) := (readT s).getD []
def readE (s : List UInt8) : Int := if (readT s).isNone then 3 else 0
end Go.Proofs
