/- Part 12 of the texts below the row: Vot3, Vot4, Ag1, Ag2. -/
import Derived.Test.YtgifbeecmidciaaGreatM11
/- The value of a quorum; no round lies ahead. -/
set_option autoImplicit false
namespace Go.Proofs
open Go.SL Go.Proofs.Bt
theorem cnt_pos {l : List Wd} {k : Int} {i : Nat} (h : i < l.length) (e : l[i].kind = k) : 1 ≤ cntK l k := by
 have h1 := cnt_take (k := k) h
 have h2 := cnt_le l k (i + 1)
 rw [if_pos e] at h1
 omega
attribute [local irreducible] J JL QOp JOp seqQ blockQ loopQ retQ slc cel hex star pur stars Does RV Ent pAt scopeQ
attribute [local irreducible] votA
theorem vmost_ok (E : World) (p : Nat) (l : List Wd) (k : Int) (v : Ky) (hV : Vots l v) (hc : cntK l k ≤ 1) : Does Tryz.prog E 134 [.pointer (some ⟨p, 0, none⟩), .int .i64 k, .int .i64 0] [votA p l] fun r L => r = .tuple #[str (if cntK l k = 0 then [] else v), .bool (decide (cntK l k ≠ 0))] ∧ L = [votA p l] := by
 have hn := hV.len
 refine Does.vot fun S => ?_
 refine Does.post (K := fun r L => r = .tuple #[str (if cntK l k = 0 then [] else v), .bool (decide (cntK l k ≠ 0))] ∧ L = [votC p S.v, slc tWd true S l]) (pre := [votC p S.v, slc tWd true S l]) ?_ (fun F => Ent.refl _) (by rintro r L ⟨hr, rfl⟩; exact ⟨_, ⟨hr, rfl⟩, fun F => Ent.vot⟩)
 have hcnt := vcount_ok E p S l k v hV hc
 refine Does.of Tryz.func134 rfl Tryz.ntmps134 rfl rfl fun F => ?_
 refine J.norm ?_
 refine Sr ?_
 refine Lq (Q_assign rfl) ?_
 refine Lq (Q_assign rfl) ?_
 refine Ln ?_
 refine J_seq ?_
 refine Sr ?_
 refine Lq (Q_move rfl) ?_
 refine Lq ((Q_peql rfl rfl).as (v' := .bool false) rfl) ?_
 refine Ln ?_
 refine J_condF rfl ?_
 refine J_skip ?_
 refine seqQ_normal ?_
 refine J_seq ?_
 refine Sr ?_
 refine Lq (Q_move rfl) ?_
 refine Lq (Q_nilCheck rfl) ?_
 refine Lq (Q_fa0 rfl) ?_
 refine Lq (Q_ld 0 rfl rfl rfl rfl) ?_
 refine Lq (Q_lenAt 1 rfl rfl) ?_
 refine Lq (Q_move rfl) ?_
 refine Ln ?_
 refine J_block ?_
 refine J_loop (fun i : Nat => i ≤ l.length ∧ cntK (l.take i) k = 0) (fun i => [(0, .pointer (some ⟨p, 0, none⟩)), (1, .int .i64 k), (2, .int .i64 0), (15, S.v), (16, .int .i64 (l.length : Int)), (17, .int .i64 (i : Int))]) (fun _ => [votC p S.v, slc tWd true S l, F]) (fun i => l.length - i) 0 ⟨Nat.zero_le _, rfl⟩ ⟨rfl, rfl, rfl, rfl, rfl, rfl, trivial⟩ (Ent.refl _) ?_
 rintro i ⟨hi, hz⟩
 refine Sr ?_
 refine Lq (Q_lss rfl rfl) ?_
 refine Ln ?_
 refine J_seq ?_
 refine J_condD rfl (fun h2 => ?_) (fun h2 => ?_)
 ·have hlt : i < l.length := by omega
  obtain ⟨h3, h4, h5⟩ := hV.at hlt
  have ht := cnt_take (k := k) hlt
  refine J_skip ?_
  refine seqQ_normal ?_
  refine J_seq ?_
  refine J_block ?_
  refine Sr ?_
  refine Lq (Q_ixAt 1 i rfl rfl rfl rfl hlt rfl) ?_
  refine Lq (Q_ldEAAt 1 i 0 (vs := wdV l[i]) rfl rfl rfl rfl hlt (by decide) rfl) ?_
  refine L_o rfl rfl rfl (O_alloc fun b9 => ?_)
  refine L_s rfl rfl (O_stW 0 rfl rfl rfl rfl ?_)
  refine JL.norm ?_
  refine Ln ?_
  refine J_seq ?_
  by_cases e : l[i].kind = k
  ·have hp := cnt_pos hlt e
   have h1 : cntK l k = 1 := by omega
   have hw : wdV l[i] = [.int .i64 l[i].kind, .int .i64 l[i].from', .int .i64 l[i].round, .int .i64 l[i].valid, str v] := by unfold wdV; rw [h5]
   rw [hw]
   rw [h1] at hcnt ⊢
   refine DH [0,1] [0,1,2,3,4,5,6,7,8,9,10,11,12,13,14,15,17,18,19,20,21,22,23,24,26,27] (.quiet 0 (.quiet 1 (.quiet 2 (.quiet 3 (.quiet 4 (.quiet 5 (.quiet 6 (.quiet 7 (.quiet 8 (.quiet 9 (.quiet 10 (.quiet 11 (.quiet 12 (.quiet 13 (.quiet 14 (.quiet 15 (.quiet 17 (.quiet 18 (.quiet 19 (.quiet 20 (.quiet 21 (.quiet 22 (.quiet 23 (.quiet 24 (.loud 16 (.loud 25 (.quiet 26 (.quiet 27 .done)))))))))))))))))))))))))))) Tryz.mixed ?_
   refine Sq (Ent.re [0,1] rfl) rfl (Q_fa0 rfl) ?_
   refine Sq (Ent.re [0,1] rfl) rfl (Q_ld 0 rfl rfl rfl rfl) ?_
   refine Sq (Ent.re [0,1] rfl) rfl (Q_move rfl) ?_
   refine Sq (Ent.re [0,1] rfl) rfl ((Q_eql rfl rfl).as (v' := .bool true) (congrArg Value.bool (decide_eq_true e))) ?_
   refine Sq (Ent.re [0,1] rfl) rfl (Q_move rfl) ?_
   refine Sq (Ent.re [0,1] rfl) rfl (Q_fa0 rfl) ?_
   refine Sq (Ent.re [0,1] rfl) rfl (Q_ld 0 rfl rfl rfl rfl) ?_
   refine Sq (Ent.re [0,1] rfl) rfl (Q_move rfl) ?_
   refine Sq (Ent.re [0,1] rfl) rfl ((Q_eql rfl rfl).as (v' := .bool true) (congrArg Value.bool (decide_eq_true h4))) ?_
   refine Sq (Ent.re [0,1] rfl) rfl (Q_pickT rfl rfl) ?_
   refine Sq (Ent.re [0,1] rfl) rfl (Q_move rfl) ?_
   refine Sq (Ent.re [0,1] rfl) rfl (Q_move rfl) ?_
   refine Sq (Ent.re [0,1] rfl) rfl (Q_move rfl) ?_
   refine Sq (Ent.re [0,1] rfl) rfl (Q_move rfl) ?_
   refine Sq (Ent.re [0,1] rfl) rfl (Q_fa0 rfl) ?_
   refine Sq (Ent.re [0,1] rfl) rfl (Q_ld 0 rfl rfl rfl rfl) ?_
   refine Sq (Ent.re [0,1] rfl) rfl (Q_move rfl) ?_
   refine Sq (Ent.re [0,1] rfl) rfl (Q_nilCheck rfl) ?_
   refine Sq (Ent.re [0,1] rfl) rfl (Q_fa0 rfl) ?_
   refine Sq (Ent.re [0,1] rfl) rfl (Q_ld 1 rfl rfl rfl rfl) ?_
   refine Sq (Ent.re [0,1] rfl) rfl (Q_move rfl) ?_
   refine Sq (Ent.re [0,1] rfl) rfl (Q_nilCheck rfl) ?_
   refine Sq (Ent.re [0,1] rfl) rfl (Q_fa0 rfl) ?_
   refine Sq (Ent.re [0,1] rfl) rfl (Q_ld 1 rfl rfl rfl rfl) ?_
   refine S_o rfl rfl rfl rfl (O_call [1,2] [0,3] hcnt rfl rfl ?_)
   (rintro _ _ ⟨rfl, rfl⟩; refine ⟨_, fun _ => ⟨Ent.reN [2,0] rfl, Ent.refl _⟩, ?_⟩)
   refine JS.norm ?_
   refine S_o rfl rfl rfl rfl (O_call [] [0,1,2,3] (quorum_ok E) rfl rfl ?_)
   (rintro _ _ ⟨rfl, rfl⟩; refine ⟨_, fun _ => ⟨Ent.reN [2,0] rfl, Ent.refl _⟩, ?_⟩)
   refine JS.norm ?_
   refine Sq (Ent.re [2,0] rfl) rfl ((Q_geq rfl rfl).as (v' := .bool true) rfl) ?_
   refine Sq (Ent.re [2,0] rfl) rfl (Q_pickT rfl rfl) ?_
   refine S_nil ?_
   refine seqQ_normal ?_
   refine J_condT rfl ?_
   refine Sr ?_
   refine Lq (Q_fa0 rfl) ?_
   refine Lq (Q_ld 2 rfl rfl rfl rfl) ?_
   refine Lq (Q_assign rfl) ?_
   refine Lq (Q_assign rfl) ?_
   refine Ln ?_
   refine J_ret ?_
   refine blockQ_ret ?_
   refine seqQ_ret ?_
   refine loopQ_ret ?_
   refine blockQ_ret ?_
   refine seqQ_ret ?_
   exact retQ_ret _ [votC p S.v, slc tWd true S l] (.cons (RV_tmp rfl) (.cons (RV_tmp rfl) .nil)) ⟨rfl, rfl⟩ (Ent.re [0,1,3] rfl)
  ·rw [if_neg e, hz] at ht
   refine DH [0,1] [0,1,2,3,4,5,6,7,8,9,10,11,12,13,14,15,17,18,19,20,21,22,23,24,26,27] (.quiet 0 (.quiet 1 (.quiet 2 (.quiet 3 (.quiet 4 (.quiet 5 (.quiet 6 (.quiet 7 (.quiet 8 (.quiet 9 (.quiet 10 (.quiet 11 (.quiet 12 (.quiet 13 (.quiet 14 (.quiet 15 (.quiet 17 (.quiet 18 (.quiet 19 (.quiet 20 (.quiet 21 (.quiet 22 (.quiet 23 (.quiet 24 (.loud 16 (.loud 25 (.quiet 26 (.quiet 27 .done)))))))))))))))))))))))))))) Tryz.mixed ?_
   refine Sq (Ent.re [0,1] rfl) rfl (Q_fa0 rfl) ?_
   refine Sq (Ent.re [0,1] rfl) rfl (Q_ld 0 rfl rfl rfl rfl) ?_
   refine Sq (Ent.re [0,1] rfl) rfl (Q_move rfl) ?_
   refine Sq (Ent.re [0,1] rfl) rfl ((Q_eql rfl rfl).as (v' := .bool false) (congrArg Value.bool (decide_eq_false e))) ?_
   refine Sq (Ent.re [0,1] rfl) rfl (Q_move rfl) ?_
   refine S_n (Ent.re [0,1] rfl) rfl rfl rfl rfl ?_
   refine S_n (Ent.re [0,1] rfl) rfl rfl rfl rfl ?_
   refine S_n (Ent.re [0,1] rfl) rfl rfl rfl rfl ?_
   refine S_n (Ent.re [0,1] rfl) rfl rfl rfl rfl ?_
   refine Sq (Ent.re [0,1] rfl) rfl (Q_pickF rfl rfl) ?_
   refine Sq (Ent.re [0,1] rfl) rfl (Q_move rfl) ?_
   refine S_n (Ent.re [0,1] rfl) rfl rfl rfl rfl ?_
   refine S_n (Ent.re [0,1] rfl) rfl rfl rfl rfl ?_
   refine S_n (Ent.re [0,1] rfl) rfl rfl rfl rfl ?_
   refine S_n (Ent.re [0,1] rfl) rfl rfl rfl rfl ?_
   refine S_n (Ent.re [0,1] rfl) rfl rfl rfl rfl ?_
   refine S_n (Ent.re [0,1] rfl) rfl rfl rfl rfl ?_
   refine S_n (Ent.re [0,1] rfl) rfl rfl rfl rfl ?_
   refine S_n (Ent.re [0,1] rfl) rfl rfl rfl rfl ?_
   refine S_n (Ent.re [0,1] rfl) rfl rfl rfl rfl ?_
   refine S_n (Ent.re [0,1] rfl) rfl rfl rfl rfl ?_
   refine S_n (Ent.re [0,1] rfl) rfl rfl rfl rfl ?_
   refine S_n (Ent.re [0,1] rfl) rfl rfl rfl rfl ?_
   refine S_n (Ent.re [0,1] rfl) rfl rfl rfl rfl ?_
   refine S_no rfl rfl rfl rfl (fun _ => (Ent.re [0,1] rfl)) ?_
   refine S_no rfl rfl rfl rfl (fun _ => (Ent.re [0,1] rfl)) ?_
   refine S_n (Ent.re [0,1] rfl) rfl rfl rfl rfl ?_
   refine Sq (Ent.re [0,1] rfl) rfl (Q_pickF rfl rfl) ?_
   refine S_nil ?_
   refine seqQ_normal ?_
   refine J_condF rfl ?_
   refine J_skip ?_
   refine blockQ_normal ?_
   refine seqQ_normal ?_
   refine J_region ?_
   refine Lq (Q_add rfl rfl (by first | exact IntWalk.i64_in _ (by omega) | exact IntWalk.u8_in _ (by omega) | exact IntWalk.u32_in _ (by omega) | exact IntWalk.u64_in _ (by omega) | rfl)) ?_
   refine Lq (Q_move rfl) ?_
   refine JL_nil ?_
   exact loopQ_normal (i + 1) ⟨hlt, ht⟩ (by show l.length - (i + 1) < l.length - i; omega) ⟨rfl, rfl, rfl, rfl, rfl, rfl, trivial⟩ (Ent.re [1,2,3] rfl)
 ·obtain rfl : i = l.length := by omega
  rw [List.take_length] at hz
  rw [hz]
  refine J_exit ?_
  refine seqQ_exit ?_
  refine loopQ_exit ?_
  refine blockQ_hit ?_
  refine seqQ_normal ?_
  refine Sr ?_
  refine Lq (Q_assign rfl) ?_
  refine Lq (Q_assign rfl) ?_
  refine Ln ?_
  refine J_ret ?_
  exact retQ_ret _ [votC p S.v, slc tWd true S l] (.cons (RV_tmp rfl) (.cons (RV_tmp rfl) .nil)) ⟨rfl, rfl⟩ (Ent.refl _)
end Go.Proofs
/- No round lies ahead. -/
set_option autoImplicit false
namespace Go.Proofs
open Go.SL Go.Proofs.Bt
def whoL : Bool → List Value
 | false => bz72
 | true => bz72.set 1 (.bool true)
theorem whoL_1 (u : Bool) : (whoL u)[1]? = some (.bool u) := by cases u <;> rfl
theorem whoL_len : (whoL false).length = 512 := by kernel_rfl
instance : SetV (whoL false) 1 (.bool true) (whoL true) := ⟨rfl, by rw [whoL_len]; decide⟩
abbrev manyL (n : Int) : List Value := .int .i64 n :: List.replicate 63 (.int .i64 0)
attribute [local irreducible] J JL QOp JOp seqQ blockQ loopQ retQ slc cel hex star pur stars Does RV Ent pAt scopeQ
attribute [local irreducible] votA whoL
theorem vahead_ok (E : World) (p : Nat) (l : List Wd) (v : Ky) (hV : Vots l v) : Does Tryz.prog E 123 [.pointer (some ⟨p, 0, none⟩), .int .i64 0] [votA p l] fun r L => r = .int .i64 (-1) ∧ L = [votA p l] := by
 have hn := hV.len
 refine Does.vot fun S => ?_
 refine Does.post (K := fun r L => r = .int .i64 (-1) ∧ L = [votC p S.v, slc tWd true S l]) (pre := [votC p S.v, slc tWd true S l]) ?_ (fun F => Ent.refl _) (by rintro r L ⟨hr, rfl⟩; exact ⟨_, ⟨hr, rfl⟩, fun F => Ent.vot⟩)
 refine Does.of Tryz.func123 rfl Tryz.ntmps123 rfl rfl fun F => ?_
 refine J.norm ?_
 refine Sr ?_
 refine Lq (Q_assign rfl) ?_
 refine Ln ?_
 refine Sr ?_
 refine Lq (Q_assign rfl) ?_
 refine Ln ?_
 refine J_seq ?_
 refine Sr ?_
 refine Lq (Q_move rfl) ?_
 refine Lq ((Q_peql rfl rfl).as (v' := .bool false) rfl) ?_
 refine Ln ?_
 refine J_condF rfl ?_
 refine J_skip ?_
 refine seqQ_normal ?_
 refine Sr ?_
 refine L_o rfl rfl rfl (O_alloc fun b6 => ?_)
 refine Ln ?_
 refine J_seq ?_
 refine J.ent (L' := [cel b6 (whoL false) 72, votC p S.v, slc tWd true S l, F]) (by unfold whoL; exact Ent.refl _) ?_
 refine J_region ?_
 refine L_o rfl rfl rfl (O_alloc fun b7 => ?_)
 refine Ln ?_
 refine J_seq ?_
 refine Sr ?_
 refine Lq (Q_move rfl) ?_
 refine Lq (Q_nilCheck rfl) ?_
 refine Lq (Q_fa0 rfl) ?_
 refine Lq (Q_ld 2 rfl rfl rfl rfl) ?_
 refine Lq (Q_lenAt 3 rfl rfl) ?_
 refine Lq (Q_move rfl) ?_
 refine Ln ?_
 refine J_block ?_
 refine J_loop (fun i : Nat => i ≤ l.length) (fun i => [(0, .pointer (some ⟨p, 0, none⟩)), (1, .int .i64 0), (5, .int .i64 (-1)), (6, .pointer (some ⟨b6, 0, none⟩)), (7, .pointer (some ⟨b7, 0, none⟩)), (16, S.v), (17, .int .i64 (l.length : Int)), (18, .int .i64 (i : Int))]) (fun i => [cel b7 (manyL (if i = 0 then 0 else 1)) 210, cel b6 (whoL (decide (i ≠ 0))) 72, votC p S.v, slc tWd true S l, F]) (fun i => l.length - i) 0 (Nat.zero_le _) ⟨rfl, rfl, rfl, rfl, rfl, rfl, rfl, rfl, trivial⟩ (Ent.refl _) ?_
 intro i hi
 refine Sr ?_
 refine Lq (Q_lss rfl rfl) ?_
 refine Ln ?_
 refine J_seq ?_
 refine J_condD rfl (fun h2 => ?_) (fun h2 => ?_)
 ·have hlt : i < l.length := by omega
  obtain ⟨h3, h4, h5⟩ := hV.at hlt
  refine J_skip ?_
  refine seqQ_normal ?_
  refine J_seq ?_
  refine J_block ?_
  refine Sr ?_
  refine Lq (Q_ixAt 3 i rfl rfl rfl rfl hlt rfl) ?_
  refine Lq (Q_ldEAAt 3 i 0 (vs := wdV l[i]) rfl rfl rfl rfl hlt (by decide) rfl) ?_
  refine L_o rfl rfl rfl (O_alloc fun b9 => ?_)
  refine L_s rfl rfl (O_stW 0 rfl rfl rfl rfl ?_)
  refine JL.norm ?_
  refine Ln ?_
  refine J_seq ?_
  refine J_seq ?_
  by_cases e : i = 0
  ·have e1 : (if i = 0 then (0 : Int) else 1) = 0 := if_pos e
   have e2 : decide (i ≠ 0) = false := by simp [e]
   rw [e1, e2]
   refine DL [0,1,2,3,4,5,6,7] (.quiet 0 (.quiet 1 (.quiet 2 (.quiet 3 (.quiet 4 (.quiet 5 (.quiet 6 (.quiet 7 .done)))))))) Tryz.mixed ?_
   refine Sq (Ent.refl _) rfl (Q_fa0 rfl) ?_
   refine Sq (Ent.refl _) rfl (Q_ld 0 rfl rfl rfl rfl) ?_
   refine Sq (Ent.refl _) rfl (Q_fa0 rfl) ?_
   refine Sq (Ent.refl _) rfl (Q_ld 0 rfl rfl rfl rfl) ?_
   refine Sq (Ent.refl _) rfl (Q_ia (o' := 0) 0 rfl rfl h4 (by decide) rfl) ?_
   refine Sq (Ent.refl _) rfl (Q_ia (o' := 1) 1 rfl rfl h3 (by decide) rfl) ?_
   refine Sq (Ent.refl _) rfl (Q_ld 2 rfl rfl rfl (whoL_1 false)) ?_
   refine Sq (Ent.refl _) rfl ((Q_not rfl).as (v' := .bool true) rfl) ?_
   refine S_nil ?_
   refine seqQ_normal ?_
   refine J_condT rfl ?_
   refine J_seq ?_
   refine DL [0,1,2,3,4,5] (.quiet 0 (.quiet 1 (.quiet 2 (.quiet 3 (.quiet 4 (.quiet 5 (.loud 6 .done))))))) Tryz.mixed ?_
   refine Sq (Ent.refl _) rfl (Q_fa0 rfl) ?_
   refine Sq (Ent.refl _) rfl (Q_ld 0 rfl rfl rfl rfl) ?_
   refine Sq (Ent.refl _) rfl (Q_fa0 rfl) ?_
   refine Sq (Ent.refl _) rfl (Q_ld 0 rfl rfl rfl rfl) ?_
   refine Sq (Ent.refl _) rfl (Q_ia (o' := 0) 0 rfl rfl h4 (by decide) rfl) ?_
   refine Sq (Ent.refl _) rfl (Q_ia (o' := 1) 1 rfl rfl h3 (by decide) rfl) ?_
   refine S_s rfl rfl rfl (O_st1 2 rfl rfl rfl rfl rfl (cs' := whoL true) ⟨[], free_no (by kernel_rfl), ?_⟩)
   refine JS.norm ?_
   refine S_nil ?_
   refine seqQ_normal ?_
   refine J_region ?_
   refine Lq (Q_fa0 rfl) ?_
   refine Lq (Q_ld 0 rfl rfl rfl rfl) ?_
   refine Lq (Q_ia (o' := 0) 0 rfl rfl h4 (by decide) rfl) ?_
   refine Lq (Q_ld 1 rfl rfl rfl rfl) ?_
   refine Lq (Q_add (r := 1) rfl rfl rfl) ?_
   refine Lq (Q_ia (o' := 0) 0 rfl rfl h4 (by decide) rfl) ?_
   refine L_s rfl rfl (O_st1 1 rfl rfl rfl rfl rfl ?_)
   refine JL.norm ?_
   refine Ln ?_
   refine J_seq ?_
   refine DL [0,1,2,3,4,5,6,7,8,9,10,11,12,13,14] (.quiet 0 (.quiet 1 (.quiet 2 (.quiet 3 (.quiet 4 (.quiet 5 (.quiet 6 (.quiet 7 (.quiet 8 (.quiet 9 (.quiet 10 (.quiet 11 (.quiet 12 (.quiet 13 (.quiet 14 .done))))))))))))))) Tryz.mixed ?_
   refine Sq (Ent.refl _) rfl (Q_fa0 rfl) ?_
   refine Sq (Ent.refl _) rfl (Q_ld 0 rfl rfl rfl rfl) ?_
   refine Sq (Ent.refl _) rfl (Q_ia (o' := 0) 0 rfl rfl h4 (by decide) rfl) ?_
   refine Sq (Ent.refl _) rfl (Q_ld 1 rfl rfl rfl rfl) ?_
   refine Sq (Ent.refl _) rfl (Q_move rfl) ?_
   refine Sq (Ent.refl _) rfl (Q_nilCheck rfl) ?_
   refine Sq (Ent.refl _) rfl (Q_fa0 rfl) ?_
   refine Sq (Ent.refl _) rfl (Q_ld 3 rfl rfl rfl rfl) ?_
   refine Sq (Ent.refl _) rfl ((Q_gtr rfl rfl).as (v' := .bool true) rfl) ?_
   refine Sq (Ent.refl _) rfl (Q_move rfl) ?_
   refine Sq (Ent.refl _) rfl (Q_fa0 rfl) ?_
   refine Sq (Ent.refl _) rfl (Q_ld 0 rfl rfl rfl rfl) ?_
   refine Sq (Ent.refl _) rfl (Q_move rfl) ?_
   refine Sq (Ent.refl _) rfl ((Q_gtr rfl rfl).as (v' := .bool false) (congrArg Value.bool (decide_eq_false (by simp [h4])))) ?_
   refine Sq (Ent.refl _) rfl (Q_pickT rfl rfl) ?_
   refine S_nil ?_
   refine seqQ_normal ?_
   refine J_condF rfl ?_
   refine J_skip ?_
   refine blockQ_normal ?_
   refine seqQ_normal ?_
   refine J_region ?_
   refine Lq (Q_add rfl rfl (by first | exact IntWalk.i64_in _ (by omega) | exact IntWalk.u8_in _ (by omega) | exact IntWalk.u32_in _ (by omega) | exact IntWalk.u64_in _ (by omega) | rfl)) ?_
   refine Lq (Q_move rfl) ?_
   refine JL_nil ?_
   exact loopQ_normal (i + 1) hlt (by show l.length - (i + 1) < l.length - i; omega) ⟨rfl, rfl, rfl, rfl, rfl, rfl, rfl, rfl, trivial⟩ (Ent.re [1,2,3,4,5] rfl)
  ·have e1 : (if i = 0 then (0 : Int) else 1) = 1 := if_neg e
   have e2 : decide (i ≠ 0) = true := by simp [e]
   rw [e1, e2]
   refine DL [0,1,2,3,4,5,6,7] (.quiet 0 (.quiet 1 (.quiet 2 (.quiet 3 (.quiet 4 (.quiet 5 (.quiet 6 (.quiet 7 .done)))))))) Tryz.mixed ?_
   refine Sq (Ent.refl _) rfl (Q_fa0 rfl) ?_
   refine Sq (Ent.refl _) rfl (Q_ld 0 rfl rfl rfl rfl) ?_
   refine Sq (Ent.refl _) rfl (Q_fa0 rfl) ?_
   refine Sq (Ent.refl _) rfl (Q_ld 0 rfl rfl rfl rfl) ?_
   refine Sq (Ent.refl _) rfl (Q_ia (o' := 0) 0 rfl rfl h4 (by decide) rfl) ?_
   refine Sq (Ent.refl _) rfl (Q_ia (o' := 1) 1 rfl rfl h3 (by decide) rfl) ?_
   refine Sq (Ent.refl _) rfl (Q_ld 2 rfl rfl rfl (whoL_1 true)) ?_
   refine Sq (Ent.refl _) rfl ((Q_not rfl).as (v' := .bool false) rfl) ?_
   refine S_nil ?_
   refine seqQ_normal ?_
   refine J_condF rfl ?_
   refine J_skip ?_
   refine seqQ_normal ?_
   refine J_seq ?_
   refine DL [0,1,2,3,4,5,6,7,8,9,10,11,12,13,14] (.quiet 0 (.quiet 1 (.quiet 2 (.quiet 3 (.quiet 4 (.quiet 5 (.quiet 6 (.quiet 7 (.quiet 8 (.quiet 9 (.quiet 10 (.quiet 11 (.quiet 12 (.quiet 13 (.quiet 14 .done))))))))))))))) Tryz.mixed ?_
   refine Sq (Ent.refl _) rfl (Q_fa0 rfl) ?_
   refine Sq (Ent.refl _) rfl (Q_ld 0 rfl rfl rfl rfl) ?_
   refine Sq (Ent.refl _) rfl (Q_ia (o' := 0) 0 rfl rfl h4 (by decide) rfl) ?_
   refine Sq (Ent.refl _) rfl (Q_ld 1 rfl rfl rfl rfl) ?_
   refine Sq (Ent.refl _) rfl (Q_move rfl) ?_
   refine Sq (Ent.refl _) rfl (Q_nilCheck rfl) ?_
   refine Sq (Ent.refl _) rfl (Q_fa0 rfl) ?_
   refine Sq (Ent.refl _) rfl (Q_ld 3 rfl rfl rfl rfl) ?_
   refine Sq (Ent.refl _) rfl ((Q_gtr rfl rfl).as (v' := .bool true) rfl) ?_
   refine Sq (Ent.refl _) rfl (Q_move rfl) ?_
   refine Sq (Ent.refl _) rfl (Q_fa0 rfl) ?_
   refine Sq (Ent.refl _) rfl (Q_ld 0 rfl rfl rfl rfl) ?_
   refine Sq (Ent.refl _) rfl (Q_move rfl) ?_
   refine Sq (Ent.refl _) rfl ((Q_gtr rfl rfl).as (v' := .bool false) (congrArg Value.bool (decide_eq_false (by simp [h4])))) ?_
   refine Sq (Ent.refl _) rfl (Q_pickT rfl rfl) ?_
   refine S_nil ?_
   refine seqQ_normal ?_
   refine J_condF rfl ?_
   refine J_skip ?_
   refine blockQ_normal ?_
   refine seqQ_normal ?_
   refine J_region ?_
   refine Lq (Q_add rfl rfl (by first | exact IntWalk.i64_in _ (by omega) | exact IntWalk.u8_in _ (by omega) | exact IntWalk.u32_in _ (by omega) | exact IntWalk.u64_in _ (by omega) | rfl)) ?_
   refine Lq (Q_move rfl) ?_
   refine JL_nil ?_
   exact loopQ_normal (i + 1) hlt (by show l.length - (i + 1) < l.length - i; omega) ⟨rfl, rfl, rfl, rfl, rfl, rfl, rfl, rfl, trivial⟩ (Ent.re [1,2,3,4,5] rfl)
 ·refine J_exit ?_
  refine seqQ_exit ?_
  refine loopQ_exit ?_
  refine blockQ_hit ?_
  refine seqQ_normal ?_
  refine Sr ?_
  refine Lq (Q_move rfl) ?_
  refine Lq (Q_assign rfl) ?_
  refine Ln ?_
  refine J_ret ?_
  exact retQ_ret _ [votC p S.v, slc tWd true S l] (.cons (RV_tmp rfl) .nil) ⟨rfl, rfl⟩ (Ent.re [2,3,4] rfl)
end Go.Proofs
/- An agreement of one node: its cells; it is made; what is said. -/
set_option autoImplicit false
namespace Go.Proofs
open Go.SL Go.Proofs.Bt
structure Ag where
 h : Nat
 own : Ky
 round : Int
 step : Int
 lv : Ky
 lr : Int
 vv : Ky
 vr : Int
 w0 : Wd
 seen : Bool
 done : Bool
 dec : Ky
def zer63 : List Value := (List.replicate 63 [.int .i64 0, .int .i64 0, .int .i64 0, .int .i64 0, .string ⟨#[]⟩]).flatten
def agL (A : Ag) (pv : Nat) (m : Value) : List Value :=
 [.int .i64 1, .int .i64 1, .int .i64 (A.h : Int), str A.own, .int .i64 A.round, .int .i64 A.step, str A.lv, .int .i64 A.lr, str A.vv, .int .i64 A.vr] ++ (wdV A.w0 ++ zer63) ++ [.pointer (some ⟨pv, 0, none⟩), .bool A.seen, .bool A.done, str A.dec, m]
abbrev Ag.sRound (A : Ag) (r : Int) : Ag := ⟨A.h, A.own, r, A.step, A.lv, A.lr, A.vv, A.vr, A.w0, A.seen, A.done, A.dec⟩
abbrev Ag.sStep (A : Ag) (r : Int) : Ag := ⟨A.h, A.own, A.round, r, A.lv, A.lr, A.vv, A.vr, A.w0, A.seen, A.done, A.dec⟩
abbrev Ag.sLock (A : Ag) (v : Ky) (r : Int) : Ag := ⟨A.h, A.own, A.round, A.step, v, r, A.vv, A.vr, A.w0, A.seen, A.done, A.dec⟩
abbrev Ag.sValid (A : Ag) (v : Ky) (r : Int) : Ag := ⟨A.h, A.own, A.round, A.step, A.lv, A.lr, v, r, A.w0, A.seen, A.done, A.dec⟩
abbrev Ag.sW0 (A : Ag) (w : Wd) : Ag := ⟨A.h, A.own, A.round, A.step, A.lv, A.lr, A.vv, A.vr, w, A.seen, A.done, A.dec⟩
abbrev Ag.sSeen (A : Ag) (r : Bool) : Ag := ⟨A.h, A.own, A.round, A.step, A.lv, A.lr, A.vv, A.vr, A.w0, r, A.done, A.dec⟩
abbrev Ag.sDone (A : Ag) (r : Bool) : Ag := ⟨A.h, A.own, A.round, A.step, A.lv, A.lr, A.vv, A.vr, A.w0, A.seen, r, A.dec⟩
abbrev Ag.sDec (A : Ag) (r : Ky) : Ag := ⟨A.h, A.own, A.round, A.step, A.lv, A.lr, A.vv, A.vr, A.w0, A.seen, A.done, r⟩
def ag0 (h : Nat) (own : Ky) : Ag := ⟨h, own, -1, 0, [], -1, [], -1, ⟨0, 0, 0, 0, []⟩, false, false, []⟩
section
variable (A : Ag) (pv : Nat) (m : Value)
theorem agL_len : (agL A pv m).length = 335 := by kernel_rfl
instance : GetV (agL A pv m) 0 (.int .i64 1) := ⟨by kernel_rfl⟩
instance : GetV (agL A pv m) 1 (.int .i64 1) := ⟨by kernel_rfl⟩
instance : GetV (agL A pv m) 2 (.int .i64 (A.h : Int)) := ⟨by kernel_rfl⟩
instance : GetV (agL A pv m) 3 (str A.own) := ⟨by kernel_rfl⟩
instance : GetV (agL A pv m) 4 (.int .i64 A.round) := ⟨by kernel_rfl⟩
instance : GetV (agL A pv m) 5 (.int .i64 A.step) := ⟨by kernel_rfl⟩
instance : GetV (agL A pv m) 6 (str A.lv) := ⟨by kernel_rfl⟩
instance : GetV (agL A pv m) 7 (.int .i64 A.lr) := ⟨by kernel_rfl⟩
instance : GetV (agL A pv m) 8 (str A.vv) := ⟨by kernel_rfl⟩
instance : GetV (agL A pv m) 9 (.int .i64 A.vr) := ⟨by kernel_rfl⟩
instance : GetV (agL A pv m) 14 (str A.w0.value) := ⟨by kernel_rfl⟩
instance : GetV (agL A pv m) 330 (.pointer (some ⟨pv, 0, none⟩)) := ⟨by kernel_rfl⟩
instance : GetV (agL A pv m) 331 (.bool A.seen) := ⟨by kernel_rfl⟩
instance : GetV (agL A pv m) 332 (.bool A.done) := ⟨by kernel_rfl⟩
instance : GetV (agL A pv m) 333 (str A.dec) := ⟨by kernel_rfl⟩
instance : GetV (agL A pv m) 334 m := ⟨by kernel_rfl⟩
instance : GetV (agL A pv m) (10 + 4) (str A.w0.value) := ⟨by kernel_rfl⟩
instance : GetV (agL A pv m) (8 + 1) (.int .i64 A.vr) := ⟨by kernel_rfl⟩
instance : GetV (agL A pv m) (8 + 0) (str A.vv) := ⟨by kernel_rfl⟩
instance : GetV (agL A pv m) (6 + 1) (.int .i64 A.lr) := ⟨by kernel_rfl⟩
instance : GetV (agL A pv m) (6 + 0) (str A.lv) := ⟨by kernel_rfl⟩
instance : GetV (agL A pv m) (334 + 0) m := ⟨by kernel_rfl⟩
instance (r : Int) : SetV (agL A pv m) 4 (.int .i64 r) (agL (A.sRound r) pv m) := ⟨by kernel_rfl, by rw [agL_len]; decide⟩
instance (r : Int) : SetV (agL A pv m) 5 (.int .i64 r) (agL (A.sStep r) pv m) := ⟨by kernel_rfl, by rw [agL_len]; decide⟩
instance (r : Bool) : SetV (agL A pv m) 331 (.bool r) (agL (A.sSeen r) pv m) := ⟨by kernel_rfl, by rw [agL_len]; decide⟩
instance (r : Bool) : SetV (agL A pv m) 332 (.bool r) (agL (A.sDone r) pv m) := ⟨by kernel_rfl, by rw [agL_len]; decide⟩
instance (r : Ky) : SetV (agL A pv m) 333 (str r) (agL (A.sDec r) pv m) := ⟨by kernel_rfl, by rw [agL_len]; decide⟩
instance (m' : Value) : SpliceL (agL A pv m) 334 [m'] (agL A pv m') := ⟨by kernel_rfl, by rw [agL_len]; exact Nat.le_of_ble_eq_true rfl⟩
instance (v : Ky) (r : Int) : SpliceL (agL A pv m) 6 [str v, .int .i64 r] (agL (A.sLock v r) pv m) := ⟨by kernel_rfl, by rw [agL_len]; exact Nat.le_of_ble_eq_true rfl⟩
instance (v : Ky) (r : Int) : SpliceL (agL A pv m) 8 [str v, .int .i64 r] (agL (A.sValid v r) pv m) := ⟨by kernel_rfl, by rw [agL_len]; exact Nat.le_of_ble_eq_true rfl⟩
instance (a b c d : Int) (v : Ky) : SpliceL (agL A pv m) 10 [.int .i64 a, .int .i64 b, .int .i64 c, .int .i64 d, str v] (agL (A.sW0 ⟨a, b, c, d, v⟩) pv m) := ⟨by kernel_rfl, by rw [agL_len]; exact Nat.le_of_ble_eq_true rfl⟩
instance : SubL (agL A pv m) 6 2 [str A.lv, .int .i64 A.lr] := ⟨by kernel_rfl, by rw [agL_len]; decide⟩
instance : SubL (agL A pv m) 8 2 [str A.vv, .int .i64 A.vr] := ⟨by kernel_rfl, by rw [agL_len]; decide⟩
instance : SubL (agL A pv m) 10 5 (wdV A.w0) := ⟨by kernel_rfl, by rw [agL_len]; decide⟩
instance : SubL (agL A pv m) 10 320 (wdV A.w0 ++ zer63) := ⟨by kernel_rfl, by rw [agL_len]; decide⟩
end
theorem ag_fill (h : Nat) (own : Ky) (pv : Nat) : FillL [(0, 1), (1, 1), (2, 1), (3, 1), (4, 1), (5, 1), (6, 2), (8, 2), (10, 320), (330, 1), (331, 1), (332, 1), (333, 1), (334, 1)] bz122
 [(0, .int .i64 1), (1, .int .i64 1), (2, .int .i64 (h : Int)), (3, str own), (4, .int .i64 (-1)), (6, .agg #[str [], .int .i64 (-1)]), (7, .agg #[str [], .int .i64 (-1)]), (9, .pointer (some ⟨pv, 0, none⟩))] (agL (ag0 h own) pv .nilFunc) := ⟨by kernel_rfl⟩
abbrev agC (p : Nat) (A : Ag) (pv : Nat) (m : Value) : HProp := cel p (agL A pv m) 122
attribute [local irreducible] J JL QOp JOp seqQ blockQ loopQ retQ slc cel hex star pur stars Does RV Ent pAt scopeQ
attribute [local irreducible] votA agL zer63 bz122
theorem leader_ok (E : World) (h : Nat) (hh : h ≤ 64) : Does Tryz.prog E 109 [.int .i64 1, .int .i64 (h : Int), .int .i64 0] [] fun v L => v = .int .i64 1 ∧ L = [] := by
 refine Does.of Tryz.func109 rfl Tryz.ntmps109 rfl rfl fun F => ?_
 refine J.norm ?_
 refine Sr ?_
 refine Lq (Q_assign rfl) ?_
 refine Ln ?_
 refine J_seq ?_
 refine Sr ?_
 refine Lq (Q_move rfl) ?_
 refine Lq ((Q_lss rfl rfl).as (v' := .bool false) rfl) ?_
 refine Lq (Q_move rfl) ?_
 refine Lq (Q_move rfl) ?_
 refine Lq ((Q_gtr rfl rfl).as (v' := .bool false) rfl) ?_
 refine Lq (Q_pickF rfl rfl) ?_
 refine Lq (Q_move rfl) ?_
 refine Lq (Q_move rfl) ?_
 refine Lq ((Q_lss rfl rfl).as (v' := .bool false) (congrArg Value.bool (decide_eq_false (by omega)))) ?_
 refine Lq (Q_pickF rfl rfl) ?_
 refine Lq (Q_move rfl) ?_
 refine Lq (Q_move rfl) ?_
 refine Lq ((Q_gtr rfl rfl).as (v' := .bool false) (congrArg Value.bool (decide_eq_false (by omega)))) ?_
 refine Lq (Q_pickF rfl rfl) ?_
 refine Lq (Q_move rfl) ?_
 refine Lq (Q_move rfl) ?_
 refine Lq ((Q_lss rfl rfl).as (v' := .bool false) rfl) ?_
 refine Lq (Q_pickF rfl rfl) ?_
 refine Lq (Q_move rfl) ?_
 refine Lq (Q_move rfl) ?_
 refine Lq ((Q_gtr rfl rfl).as (v' := .bool false) rfl) ?_
 refine Lq (Q_pickF rfl rfl) ?_
 refine Ln ?_
 refine J_condF rfl ?_
 refine J_skip ?_
 refine seqQ_normal ?_
 refine Sr ?_
 refine Lq (Q_move rfl) ?_
 refine Lq (Q_move rfl) ?_
 refine Lq (Q_add (r := (h : Int)) rfl rfl (by rw [Int.add_zero]; exact IntWalk.i64_in _ (by omega))) ?_
 refine Lq (Q_move rfl) ?_
 refine Lq (Q_rem (r := 0) rfl rfl (by decide) (Int.tmod_one _)) ?_
 refine Lq (Q_add (r := 1) rfl rfl rfl) ?_
 refine Lq (Q_assign rfl) ?_
 refine Ln ?_
 refine J_ret ?_
 exact retQ_ret _ [] (.cons (RV_tmp rfl) .nil) ⟨rfl, rfl⟩ (Ent.refl _)
theorem agnew_ok (E : World) (h : Nat) (own : Ky) (hh : h ≤ 64) (ho : own ≠ []) (hl : own.length ≤ 4096) : Does Tryz.prog E 27 [.int .i64 1, .int .i64 0, .int .i64 1, .int .i64 (h : Int), str own] [] fun v L => ∃ p pv : Nat, v = .pointer (some ⟨p, 0, none⟩) ∧ L = [agC p (ag0 h own) pv .nilFunc, votA pv []] := by
 refine Does.of Tryz.func27 rfl Tryz.ntmps27 rfl rfl fun F => ?_
 refine J.norm ?_
 refine Sr ?_
 refine Lq (Q_assign rfl) ?_
 refine Ln ?_
 refine Sr ?_
 refine Lq (Q_move rfl) ?_
 refine Lq (Q_move rfl) ?_
 refine L_o rfl rfl rfl (O_call [] [0] (vnew_ok E) rfl rfl ?_)
 rintro _ _ ⟨pv, rfl, rfl⟩
 refine JL.norm ?_
 refine Lq (Q_assign rfl) ?_
 refine Ln ?_
 refine J_seq ?_
 refine Sr ?_
 refine Lq (Q_move rfl) ?_
 refine Lq ((Q_peql rfl rfl).as (v' := .bool false) rfl) ?_
 refine Lq (Q_move rfl) ?_
 refine Lq (Q_move rfl) ?_
 refine Lq ((Q_lss rfl rfl).as (v' := .bool false) rfl) ?_
 refine Lq (Q_pickF rfl rfl) ?_
 refine Lq (Q_move rfl) ?_
 refine Lq (Q_move rfl) ?_
 refine Lq (Q_move rfl) ?_
 refine Lq ((Q_gtr rfl rfl).as (v' := .bool false) rfl) ?_
 refine Lq (Q_pickF rfl rfl) ?_
 refine Lq (Q_move rfl) ?_
 refine Lq (Q_move rfl) ?_
 refine Lq ((Q_lss rfl rfl).as (v' := .bool false) (congrArg Value.bool (decide_eq_false (by omega)))) ?_
 refine Lq (Q_pickF rfl rfl) ?_
 refine Lq (Q_move rfl) ?_
 refine Lq (Q_move rfl) ?_
 refine Lq ((Q_gtr rfl rfl).as (v' := .bool false) (congrArg Value.bool (decide_eq_false (by omega)))) ?_
 refine Lq (Q_pickF rfl rfl) ?_
 refine Lq (Q_move rfl) ?_
 refine Lq (Q_move rfl) ?_
 refine Lq ((Q_seql rfl rfl).as (v' := .bool false) (congrArg Value.bool (decide_eq_false ho))) ?_
 refine Lq (Q_pickF rfl rfl) ?_
 refine Lq (Q_move rfl) ?_
 refine Lq (Q_move rfl) ?_
 refine Lq (Q_slen rfl) ?_
 refine Lq ((Q_gtr rfl rfl).as (v' := .bool false) (congrArg Value.bool (decide_eq_false (by omega)))) ?_
 refine Lq (Q_pickF rfl rfl) ?_
 refine Ln ?_
 refine J_condF rfl ?_
 refine J_skip ?_
 refine seqQ_normal ?_
 refine Sr ?_
 refine Lq (Q_build rfl) ?_
 refine L_o rfl rfl rfl (O_alloc fun b12 => ?_)
 refine L_s rfl rfl (O_stW 0 rfl rfl rfl rfl ?_)
 refine JL.norm ?_
 refine Ln ?_
 refine Sr ?_
 refine Lq (Q_move rfl) ?_
 refine Lq (Q_move rfl) ?_
 refine Lq (Q_move rfl) ?_
 refine Lq (Q_move rfl) ?_
 refine Lq (Q_ldA 0 rfl rfl rfl) ?_
 refine Lq (Q_ldA 0 rfl rfl rfl) ?_
 refine Lq (Q_move rfl) ?_
 refine Lq (Q_build (hc := ag_fill h own pv) rfl) ?_
 refine L_o rfl rfl rfl (O_box rfl fun b53 => ?_)
 refine Lq (Q_assign rfl) ?_
 refine Ln ?_
 refine J_ret ?_
 exact retQ_ret _ [agC b53 (ag0 h own) pv .nilFunc, votA pv []] (.cons (RV_tmp rfl) .nil) ⟨b53, pv, rfl, rfl⟩ (Ent.re [0,2,3] rfl)
/-- What is said goes behind what was. -/
theorem say_ok (E : World) (b : Nat) (S : SV) (out : List Wd) (w : Wd) (ho : out.length ≤ 1000) : Does Tryz.prog E 108 [.agg (wdV w).toArray, .pointer (some ⟨b, 0, none⟩)] [cel b [S.v] 124, slc tWd true S out] fun v L => ∃ S' : SV, v = .tuple #[] ∧ L = [cel b [S'.v] 124, slc tWd true S' (out ++ [w])] := by
 refine Does.of Tryz.func108 rfl Tryz.ntmps108 rfl rfl fun F => ?_
 refine J.norm ?_
 refine Sr ?_
 refine L_o rfl rfl rfl (O_box rfl fun b2 => ?_)
 refine Ln ?_
 refine J_region ?_
 refine Lq (Q_ld 1 rfl rfl rfl rfl) ?_
 refine Lq (Q_ldA 0 rfl rfl rfl) ?_
 refine L_o rfl rfl rfl (O_litP (τ := tWd) (m := 1) (sz := 5) [w] rfl rfl rfl rfl rfl rfl (by decide) (fun U => ?_))
 refine JL.norm ?_
 refine L_o rfl rfl rfl (O_app (τ := tWd) 3 rfl (fun w h => h.rd 0 rfl) rfl rfl rfl rfl (by simp only [List.length_singleton]; omega) (by decide) (fun S2 => ?_))
 refine JL.norm ?_
 refine L_s rfl rfl (O_st1 2 rfl rfl rfl rfl rfl ?_)
 refine JL.norm ?_
 refine JL_nil ?_
 exact retQ_normal [] [cel b [S2.v] 124, slc tWd true S2 (out ++ [w])] .nil ⟨S2, rfl, rfl⟩ (Ent.re [2,3,4] rfl)
end Go.Proofs
/- An agreement of one node: it begins, it votes; a word that counts. -/
set_option autoImplicit false
namespace Go.Proofs
open Go.SL Go.Proofs.Bt
abbrev sayV (b : Nat) : Value := .func (.func 108) #[] #[.pointer (some ⟨b, 0, none⟩)]
/-- What the one node proposes. -/
abbrev prop0 (v : Ky) : Wd := ⟨1, 1, 0, -1, v⟩
attribute [local irreducible] J JL QOp JOp seqQ blockQ loopQ retQ slc cel hex star pur stars Does RV Ent pAt scopeQ
attribute [local irreducible] votA agL zer63 bz122
section
variable (E : World) (p pv b : Nat) (A : Ag) (S : SV) (out : List Wd)
theorem abegin_ok (hh : A.h ≤ 64) (hvr : A.vr = -1) (ho : out.length ≤ 1000) : Does Tryz.prog E 87 [.pointer (some ⟨p, 0, none⟩), .int .i64 0] [agC p A pv (sayV b), cel b [S.v] 124, slc tWd true S out] fun v L => ∃ S' : SV, v = .tuple #[] ∧ L = [agC p ((((A.sRound 0).sStep 1).sSeen false)) pv (sayV b), cel b [S'.v] 124, slc tWd true S' (out ++ [prop0 A.own])] := by
 obtain ⟨h, own, round, step, lv, lr, vv, vr, w0, seen, done, dec⟩ := A
 dsimp only at hh hvr ⊢
 subst hvr
 refine Does.of Tryz.func87 rfl Tryz.ntmps87 rfl rfl fun F => ?_
 refine J.norm ?_
 refine J_seq ?_
 refine Sr ?_
 refine Lq (Q_move rfl) ?_
 refine Lq ((Q_geq rfl rfl).as (v' := .bool false) rfl) ?_
 refine Ln ?_
 refine J_condF rfl ?_
 refine J_skip ?_
 refine seqQ_normal ?_
 refine Sr ?_
 refine Lq (Q_move rfl) ?_
 refine Lq (Q_move rfl) ?_
 refine Lq (Q_move rfl) ?_
 refine Lq (Q_move rfl) ?_
 refine Lq (Q_nilCheck rfl) ?_
 refine Lq (Q_fa0 rfl) ?_
 refine L_s rfl rfl (O_st1 0 rfl rfl rfl rfl rfl ?_)
 refine JL.norm ?_
 refine Lq (Q_nilCheck rfl) ?_
 refine Lq (Q_fa0 rfl) ?_
 refine L_s rfl rfl (O_st1 0 rfl rfl rfl rfl rfl ?_)
 refine JL.norm ?_
 refine Lq (Q_nilCheck rfl) ?_
 refine Lq (Q_fa0 rfl) ?_
 refine L_s rfl rfl (O_st1 0 rfl rfl rfl rfl rfl ?_)
 refine JL.norm ?_
 refine Ln ?_
 refine J_seq ?_
 refine J_seq ?_
 refine DH [0] [0,1,2,3,4,5,6,7,8,10,11,12,13,14] (.quiet 0 (.quiet 1 (.quiet 2 (.quiet 3 (.quiet 4 (.quiet 5 (.quiet 6 (.quiet 7 (.quiet 8 (.quiet 10 (.quiet 11 (.quiet 12 (.quiet 13 (.loud 9 (.quiet 14 .done))))))))))))))) Tryz.mixed ?_
 refine Sq (Ent.re [0] rfl) rfl (Q_move rfl) ?_
 refine Sq (Ent.re [0] rfl) rfl (Q_nilCheck rfl) ?_
 refine Sq (Ent.re [0] rfl) rfl (Q_fa0 rfl) ?_
 refine Sq (Ent.re [0] rfl) rfl (Q_ldG 0 rfl rfl rfl) ?_
 refine Sq (Ent.re [0] rfl) rfl (Q_move rfl) ?_
 refine Sq (Ent.re [0] rfl) rfl (Q_nilCheck rfl) ?_
 refine Sq (Ent.re [0] rfl) rfl (Q_fa0 rfl) ?_
 refine Sq (Ent.re [0] rfl) rfl (Q_ldG 0 rfl rfl rfl) ?_
 refine Sq (Ent.re [0] rfl) rfl (Q_move rfl) ?_
 refine Sq (Ent.re [0] rfl) rfl (Q_move rfl) ?_
 refine Sq (Ent.re [0] rfl) rfl (Q_nilCheck rfl) ?_
 refine Sq (Ent.re [0] rfl) rfl (Q_fa0 rfl) ?_
 refine Sq (Ent.re [0] rfl) rfl (Q_ldG 0 rfl rfl rfl) ?_
 refine S_o rfl rfl rfl rfl (O_call [] [0,1,2,3] (leader_ok E h hh) rfl rfl ?_)
 (rintro _ _ ⟨rfl, rfl⟩; refine ⟨_, fun _ => ⟨Ent.reN [0] rfl, Ent.refl _⟩, ?_⟩)
 refine JS.norm ?_
 refine Sq (Ent.re [0] rfl) rfl ((Q_neq rfl rfl).as (v' := .bool false) rfl) ?_
 refine S_nil ?_
 refine seqQ_normal ?_
 refine J_condF rfl ?_
 refine J_skip ?_
 refine seqQ_normal ?_
 refine J_seq ?_
 refine DH [0] [0,1,2,3,4,5,6,7,8,9,10,11,12,13,14,15] (.quiet 0 (.quiet 1 (.quiet 2 (.quiet 3 (.quiet 4 (.quiet 5 (.quiet 6 (.quiet 7 (.quiet 8 (.quiet 9 (.quiet 10 (.quiet 11 (.quiet 12 (.quiet 13 (.quiet 14 (.quiet 15 (.loud 16 (.loud 17 .done)))))))))))))))))) Tryz.mixed ?_
 refine Sq (Ent.re [0] rfl) rfl (Q_move rfl) ?_
 refine Sq (Ent.re [0] rfl) rfl (Q_nilCheck rfl) ?_
 refine Sq (Ent.re [0] rfl) rfl (Q_fa0 rfl) ?_
 refine Sq (Ent.re [0] rfl) rfl (Q_ldG 0 rfl rfl rfl) ?_
 refine Sq (Ent.re [0] rfl) rfl (Q_move rfl) ?_
 refine Sq (Ent.re [0] rfl) rfl (Q_move rfl) ?_
 refine Sq (Ent.re [0] rfl) rfl (Q_nilCheck rfl) ?_
 refine Sq (Ent.re [0] rfl) rfl (Q_fa0 rfl) ?_
 refine Sq (Ent.re [0] rfl) rfl (Q_fa rfl rfl) ?_
 refine Sq (Ent.re [0] rfl) rfl (Q_ldG 0 rfl rfl rfl) ?_
 refine Sq (Ent.re [0] rfl) rfl (Q_move rfl) ?_
 refine Sq (Ent.re [0] rfl) rfl (Q_nilCheck rfl) ?_
 refine Sq (Ent.re [0] rfl) rfl (Q_fa0 rfl) ?_
 refine Sq (Ent.re [0] rfl) rfl (Q_fa rfl rfl) ?_
 refine Sq (Ent.re [0] rfl) rfl (Q_ldG 0 rfl rfl rfl) ?_
 refine Sq (Ent.re [0] rfl) rfl (Q_build rfl) ?_
 refine S_o rfl rfl rfl rfl (O_alloc (fun b4 => ⟨_, fun _ => ⟨Ent.reN [1] rfl, Ent.refl _⟩, ?_⟩))
 refine JS.norm ?_
 refine S_s rfl rfl rfl (O_stW 0 rfl rfl rfl rfl ⟨[], free_no (by kernel_rfl), ?_⟩)
 refine JS.norm ?_
 refine S_nil ?_
 refine seqQ_normal ?_
 refine J_seq ?_
 refine Sr ?_
 refine Lq (Q_fa0 rfl) ?_
 refine Lq (Q_ld 0 rfl rfl rfl rfl) ?_
 refine Lq ((Q_lss rfl rfl).as (v' := .bool true) rfl) ?_
 refine Ln ?_
 refine J_condT rfl ?_
 refine J_region ?_
 refine Lq (Q_move rfl) ?_
 refine Lq (Q_nilCheck rfl) ?_
 refine Lq (Q_fa0 rfl) ?_
 refine Lq (Q_ldG 1 rfl rfl rfl) ?_
 refine Lq (Q_fa0 rfl) ?_
 refine L_s rfl rfl (O_st1 0 rfl rfl rfl rfl rfl ?_)
 refine JL.norm ?_
 refine Ln ?_
 refine DH [0,1] [0,1,2,3,4,5] (.quiet 0 (.quiet 1 (.quiet 2 (.quiet 3 (.quiet 4 (.quiet 5 (.loud 6 .done))))))) Tryz.mixed ?_
 refine Sq (Ent.re [0,1] rfl) rfl (Q_move rfl) ?_
 refine Sq (Ent.re [0,1] rfl) rfl (Q_nilCheck rfl) ?_
 refine Sq (Ent.re [0,1] rfl) rfl (Q_fa0 rfl) ?_
 refine Sq (Ent.re [0,1] rfl) rfl (Q_fa rfl rfl) ?_
 refine Sq (Ent.re [0,1] rfl) rfl (Q_ldG 1 rfl rfl rfl) ?_
 refine Sq (Ent.re [0,1] rfl) rfl (Q_ldA 0 rfl rfl rfl) ?_
 refine S_o rfl rfl rfl rfl (O_dyn [2,3] [0,1,4] rfl rfl rfl (say_ok E b S out (prop0 own) ho) rfl ?_)
 (rintro _ _ ⟨S', rfl, rfl⟩; refine ⟨[], free_no (by kernel_rfl), ?_⟩)
 refine JS.norm ?_
 refine S_nil ?_
 exact retQ_normal [] [agC p ⟨h, own, 0, 1, lv, lr, vv, -1, w0, false, done, dec⟩ pv (sayV b), cel b [S'.v] 124, slc tWd true S' (out ++ [prop0 own])] .nil ⟨S', rfl, rfl⟩ (Ent.re [3,0,1,4] rfl)
theorem avote_ok (k : Int) (v : Ky) (hk : k = 2 ∨ k = 3) (hr : A.round = 0) (ho : out.length ≤ 1000) : Does Tryz.prog E 127 [.pointer (some ⟨p, 0, none⟩), .int .i64 k, str v] [agC p A pv (sayV b), cel b [S.v] 124, slc tWd true S out] fun r L => ∃ S' : SV, r = .tuple #[] ∧ L = [agC p (A.sStep k) pv (sayV b), cel b [S'.v] 124, slc tWd true S' (out ++ [vote0 k v])] := by
 obtain ⟨h, own, round, step, lv, lr, vv, vr, w0, seen, done, dec⟩ := A
 dsimp only at hr ⊢
 subst hr
 rcases hk with rfl | rfl
 ·refine Does.of Tryz.func127 rfl Tryz.ntmps127 rfl rfl fun F => ?_
  refine J.norm ?_
  refine Sr ?_
  refine Lq (Q_move rfl) ?_
  refine Lq (Q_nilCheck rfl) ?_
  refine Lq (Q_fa0 rfl) ?_
  refine L_s rfl rfl (O_st1 0 rfl rfl rfl rfl rfl ?_)
  refine JL.norm ?_
  refine Ln ?_
  refine J_seq ?_
  refine Sr ?_
  refine Lq (Q_move rfl) ?_
  refine Lq ((Q_eql rfl rfl).as (v' := .bool false) rfl) ?_
  refine Ln ?_
  refine J_condF rfl ?_
  refine J_skip ?_
  refine seqQ_normal ?_
  refine DH [0] [0,1,2,3,4,5,6,7,8,9,10,11,12,13,14,15] (.quiet 0 (.quiet 1 (.quiet 2 (.quiet 3 (.quiet 4 (.quiet 5 (.quiet 6 (.quiet 7 (.quiet 8 (.quiet 9 (.quiet 10 (.quiet 11 (.quiet 12 (.quiet 13 (.quiet 14 (.quiet 15 (.loud 16 .done))))))))))))))))) Tryz.mixed ?_
  refine Sq (Ent.re [0] rfl) rfl (Q_move rfl) ?_
  refine Sq (Ent.re [0] rfl) rfl (Q_nilCheck rfl) ?_
  refine Sq (Ent.re [0] rfl) rfl (Q_fa0 rfl) ?_
  refine Sq (Ent.re [0] rfl) rfl (Q_fa rfl rfl) ?_
  refine Sq (Ent.re [0] rfl) rfl (Q_ldG 0 rfl rfl rfl) ?_
  refine Sq (Ent.re [0] rfl) rfl (Q_move rfl) ?_
  refine Sq (Ent.re [0] rfl) rfl (Q_move rfl) ?_
  refine Sq (Ent.re [0] rfl) rfl (Q_nilCheck rfl) ?_
  refine Sq (Ent.re [0] rfl) rfl (Q_fa0 rfl) ?_
  refine Sq (Ent.re [0] rfl) rfl (Q_ldG 0 rfl rfl rfl) ?_
  refine Sq (Ent.re [0] rfl) rfl (Q_move rfl) ?_
  refine Sq (Ent.re [0] rfl) rfl (Q_nilCheck rfl) ?_
  refine Sq (Ent.re [0] rfl) rfl (Q_fa0 rfl) ?_
  refine Sq (Ent.re [0] rfl) rfl (Q_ldG 0 rfl rfl rfl) ?_
  refine Sq (Ent.re [0] rfl) rfl (Q_move rfl) ?_
  refine Sq (Ent.re [0] rfl) rfl (Q_build rfl) ?_
  refine S_o rfl rfl rfl rfl (O_dyn [1,2] [0,3] rfl rfl rfl (say_ok E b S out (vote0 2 v) ho) rfl ?_)
  (rintro _ _ ⟨S', rfl, rfl⟩; refine ⟨[], free_no (by kernel_rfl), ?_⟩)
  refine JS.norm ?_
  refine S_nil ?_
  exact retQ_normal [] [agC p ⟨h, own, 0, 2, lv, lr, vv, vr, w0, seen, done, dec⟩ pv (sayV b), cel b [S'.v] 124, slc tWd true S' (out ++ [vote0 2 v])] .nil ⟨S', rfl, rfl⟩ (Ent.re [2,0,1,3] rfl)
 ·refine Does.of Tryz.func127 rfl Tryz.ntmps127 rfl rfl fun F => ?_
  refine J.norm ?_
  refine Sr ?_
  refine Lq (Q_move rfl) ?_
  refine Lq (Q_nilCheck rfl) ?_
  refine Lq (Q_fa0 rfl) ?_
  refine L_s rfl rfl (O_st1 0 rfl rfl rfl rfl rfl ?_)
  refine JL.norm ?_
  refine Ln ?_
  refine J_seq ?_
  refine Sr ?_
  refine Lq (Q_move rfl) ?_
  refine Lq ((Q_eql rfl rfl).as (v' := .bool true) rfl) ?_
  refine Ln ?_
  refine J_condT rfl ?_
  refine J_region ?_
  refine Lq (Q_move rfl) ?_
  refine Lq (Q_nilCheck rfl) ?_
  refine Lq (Q_fa0 rfl) ?_
  refine L_s rfl rfl (O_st1 0 rfl rfl rfl rfl rfl ?_)
  refine JL.norm ?_
  refine Ln ?_
  refine DH [0] [0,1,2,3,4,5,6,7,8,9,10,11,12,13,14,15] (.quiet 0 (.quiet 1 (.quiet 2 (.quiet 3 (.quiet 4 (.quiet 5 (.quiet 6 (.quiet 7 (.quiet 8 (.quiet 9 (.quiet 10 (.quiet 11 (.quiet 12 (.quiet 13 (.quiet 14 (.quiet 15 (.loud 16 .done))))))))))))))))) Tryz.mixed ?_
  refine Sq (Ent.re [0] rfl) rfl (Q_move rfl) ?_
  refine Sq (Ent.re [0] rfl) rfl (Q_nilCheck rfl) ?_
  refine Sq (Ent.re [0] rfl) rfl (Q_fa0 rfl) ?_
  refine Sq (Ent.re [0] rfl) rfl (Q_fa rfl rfl) ?_
  refine Sq (Ent.re [0] rfl) rfl (Q_ldG 0 rfl rfl rfl) ?_
  refine Sq (Ent.re [0] rfl) rfl (Q_move rfl) ?_
  refine Sq (Ent.re [0] rfl) rfl (Q_move rfl) ?_
  refine Sq (Ent.re [0] rfl) rfl (Q_nilCheck rfl) ?_
  refine Sq (Ent.re [0] rfl) rfl (Q_fa0 rfl) ?_
  refine Sq (Ent.re [0] rfl) rfl (Q_ldG 0 rfl rfl rfl) ?_
  refine Sq (Ent.re [0] rfl) rfl (Q_move rfl) ?_
  refine Sq (Ent.re [0] rfl) rfl (Q_nilCheck rfl) ?_
  refine Sq (Ent.re [0] rfl) rfl (Q_fa0 rfl) ?_
  refine Sq (Ent.re [0] rfl) rfl (Q_ldG 0 rfl rfl rfl) ?_
  refine Sq (Ent.re [0] rfl) rfl (Q_move rfl) ?_
  refine Sq (Ent.re [0] rfl) rfl (Q_build rfl) ?_
  refine S_o rfl rfl rfl rfl (O_dyn [1,2] [0,3] rfl rfl rfl (say_ok E b S out (vote0 3 v) ho) rfl ?_)
  (rintro _ _ ⟨S', rfl, rfl⟩; refine ⟨[], free_no (by kernel_rfl), ?_⟩)
  refine JS.norm ?_
  refine S_nil ?_
  exact retQ_normal [] [agC p ⟨h, own, 0, 3, lv, lr, vv, vr, w0, seen, done, dec⟩ pv (sayV b), cel b [S'.v] 124, slc tWd true S' (out ++ [vote0 3 v])] .nil ⟨S', rfl, rfl⟩ (Ent.re [2,0,1,3] rfl)
theorem amost_ok (m : Value) (l : List Wd) (k : Int) (v v' : Ky) (hV : Vots l v) (hc : cntK l k ≤ 1) : Does Tryz.prog E 126 [.pointer (some ⟨p, 0, none⟩), .int .i64 k, .int .i64 0, str v'] [agC p A pv m, votA pv l] fun r L => r = .bool (decide (cntK l k ≠ 0) && decide (v = v')) ∧ L = [agC p A pv m, votA pv l] := by
 have hm := vmost_ok E pv l k v hV hc
 refine Does.of Tryz.func126 rfl Tryz.ntmps126 rfl rfl fun F => ?_
 refine J.norm ?_
 refine Sr ?_
 refine Lq (Q_assign rfl) ?_
 refine Ln ?_
 refine J_seq ?_
 by_cases h0 : cntK l k = 0
 ·rw [if_pos h0, show decide (cntK l k ≠ 0) = false by simp [h0]] at hm
  rw [show decide (cntK l k ≠ 0) = false by simp [h0]]
  refine J_region ?_
  refine Lq (Q_move rfl) ?_
  refine Lq (Q_nilCheck rfl) ?_
  refine Lq (Q_fa0 rfl) ?_
  refine Lq (Q_ldG 0 rfl rfl rfl) ?_
  refine Lq (Q_move rfl) ?_
  refine Lq (Q_move rfl) ?_
  refine L_o rfl rfl rfl (O_call [1] [0,2] hm rfl rfl ?_)
  rintro _ _ ⟨rfl, rfl⟩
  refine JL.norm ?_
  refine Lq (Q_move rfl) ?_
  refine Lq (Q_extract (v := str []) rfl rfl) ?_
  refine Lq (Q_extract (v := .bool false) rfl rfl) ?_
  refine Lq (Q_assign rfl) ?_
  refine Lq (Q_assign rfl) ?_
  refine Ln ?_
  refine Sr ?_
  refine Lq (Q_move rfl) ?_
  refine Lq (Q_move rfl) ?_
  refine L_n rfl rfl rfl ?_
  refine L_n rfl rfl rfl ?_
  refine L_n rfl rfl rfl ?_
  refine Lq (Q_pickF rfl rfl) ?_
  refine Lq (Q_assign rfl) ?_
  refine Ln ?_
  refine J_ret ?_
  exact retQ_ret _ [agC p A pv m, votA pv l] (.cons (RV_tmp rfl) .nil) ⟨rfl, rfl⟩ (Ent.re [1,0,2] rfl)
 ·rw [if_neg h0, show decide (cntK l k ≠ 0) = true by simp [h0]] at hm
  rw [show decide (cntK l k ≠ 0) = true by simp [h0]]
  refine J_region ?_
  refine Lq (Q_move rfl) ?_
  refine Lq (Q_nilCheck rfl) ?_
  refine Lq (Q_fa0 rfl) ?_
  refine Lq (Q_ldG 0 rfl rfl rfl) ?_
  refine Lq (Q_move rfl) ?_
  refine Lq (Q_move rfl) ?_
  refine L_o rfl rfl rfl (O_call [1] [0,2] hm rfl rfl ?_)
  rintro _ _ ⟨rfl, rfl⟩
  refine JL.norm ?_
  refine Lq (Q_move rfl) ?_
  refine Lq (Q_extract (v := str v) rfl rfl) ?_
  refine Lq (Q_extract (v := .bool true) rfl rfl) ?_
  refine Lq (Q_assign rfl) ?_
  refine Lq (Q_assign rfl) ?_
  refine Ln ?_
  refine Sr ?_
  refine Lq (Q_move rfl) ?_
  refine Lq (Q_move rfl) ?_
  refine Lq (Q_move rfl) ?_
  refine Lq (Q_move rfl) ?_
  refine Lq (Q_seql rfl rfl) ?_
  refine Lq (Q_pickT rfl rfl) ?_
  refine Lq (Q_assign rfl) ?_
  refine Ln ?_
  refine J_ret ?_
  exact retQ_ret _ [agC p A pv m, votA pv l] (.cons (RV_tmp rfl) .nil) ⟨rfl, rfl⟩ (Ent.re [1,0,2] rfl)
end
theorem checkP_ok (E : World) (v : Ky) (h0 : v ≠ []) (hv : v.length ≤ 4096) : Does Tryz.prog E 120 [.agg (wdV (prop0 v)).toArray] [] fun r L => r = .int .i64 0 ∧ L = [] := by
 refine Does.of Tryz.func120 rfl Tryz.ntmps120 rfl rfl fun F => ?_
 refine J.norm ?_
 refine Sr ?_
 refine L_o rfl rfl rfl (O_box rfl fun b1 => ?_)
 refine Lq (Q_assign rfl) ?_
 refine Ln ?_
 refine Sr ?_
 refine Lq (Q_assign rfl) ?_
 refine Ln ?_
 refine J_seq ?_
 refine Sr ?_
 refine Lq (Q_fa0 rfl) ?_
 refine Lq (Q_ld 0 rfl rfl rfl rfl) ?_
 refine Ln ?_
 refine J_block ?_
 refine Sr ?_
 refine Lq ((Q_eql rfl rfl).as (v' := .bool true) rfl) ?_
 refine Lq (Q_assign rfl) ?_
 refine Ln ?_
 refine J_condT rfl ?_
 refine J_region ?_
 refine Lq (Q_fa0 rfl) ?_
 refine Lq (Q_ld 0 rfl rfl rfl rfl) ?_
 refine Lq ((Q_geq rfl rfl).as (v' := .bool true) rfl) ?_
 refine Lq (Q_move rfl) ?_
 refine Lq (Q_fa0 rfl) ?_
 refine Lq (Q_ld 0 rfl rfl rfl rfl) ?_
 refine Lq (Q_fa0 rfl) ?_
 refine Lq (Q_ld 0 rfl rfl rfl rfl) ?_
 refine Lq ((Q_lss rfl rfl).as (v' := .bool true) rfl) ?_
 refine Lq (Q_pickT rfl rfl) ?_
 refine Lq (Q_move rfl) ?_
 refine Lq (Q_fa0 rfl) ?_
 refine Lq (Q_ld 0 rfl rfl rfl rfl) ?_
 refine Lq ((Q_sneq rfl rfl).as (v' := .bool true) (congrArg Value.bool (decide_eq_true h0))) ?_
 refine Lq (Q_pickT rfl rfl) ?_
 refine Lq (Q_assign rfl) ?_
 refine JL_nil ?_
 refine blockQ_normal ?_
 refine seqQ_normal ?_
 refine J_seq ?_
 refine Sr ?_
 refine Lq (Q_move rfl) ?_
 refine Lq ((Q_not rfl).as (v' := .bool false) rfl) ?_
 refine Lq (Q_move rfl) ?_
 refine Lq (Q_fa0 rfl) ?_
 refine Lq (Q_ld 0 rfl rfl rfl rfl) ?_
 refine Lq ((Q_lss rfl rfl).as (v' := .bool false) rfl) ?_
 refine Lq (Q_pickF rfl rfl) ?_
 refine Lq (Q_move rfl) ?_
 refine Lq (Q_fa0 rfl) ?_
 refine Lq (Q_ld 0 rfl rfl rfl rfl) ?_
 refine Lq ((Q_gtr rfl rfl).as (v' := .bool false) rfl) ?_
 refine Lq (Q_pickF rfl rfl) ?_
 refine Lq (Q_move rfl) ?_
 refine Lq (Q_fa0 rfl) ?_
 refine Lq (Q_ld 0 rfl rfl rfl rfl) ?_
 refine Lq ((Q_lss rfl rfl).as (v' := .bool false) rfl) ?_
 refine Lq (Q_pickF rfl rfl) ?_
 refine Lq (Q_move rfl) ?_
 refine Lq (Q_fa0 rfl) ?_
 refine Lq (Q_ld 0 rfl rfl rfl rfl) ?_
 refine Lq ((Q_geq rfl rfl).as (v' := .bool false) rfl) ?_
 refine Lq (Q_pickF rfl rfl) ?_
 refine Lq (Q_move rfl) ?_
 refine Lq (Q_fa0 rfl) ?_
 refine Lq (Q_ld 0 rfl rfl rfl rfl) ?_
 refine Lq (Q_slen rfl) ?_
 refine Lq ((Q_gtr rfl rfl).as (v' := .bool false) (congrArg Value.bool (decide_eq_false (by show ¬ (4096 : Int) < (v.length : Int); omega)))) ?_
 refine Lq (Q_pickF rfl rfl) ?_
 refine Ln ?_
 refine J_condF rfl ?_
 refine J_skip ?_
 refine seqQ_normal ?_
 refine Sr ?_
 refine Lq (Q_assign rfl) ?_
 refine Ln ?_
 refine J_ret ?_
 exact retQ_ret _ [] (.cons (RV_tmp rfl) .nil) ⟨rfl, rfl⟩ (Ent.re [1] rfl)
theorem checkV_ok (E : World) (k : Int) (v : Ky) (hk : k = 2 ∨ k = 3) (hv : v.length ≤ 4096) : Does Tryz.prog E 120 [.agg (wdV (vote0 k v)).toArray] [] fun r L => r = .int .i64 0 ∧ L = [] := by
 rcases hk with rfl | rfl
 ·refine Does.of Tryz.func120 rfl Tryz.ntmps120 rfl rfl fun F => ?_
  refine J.norm ?_
  refine Sr ?_
  refine L_o rfl rfl rfl (O_box rfl fun b1 => ?_)
  refine Lq (Q_assign rfl) ?_
  refine Ln ?_
  refine Sr ?_
  refine Lq (Q_assign rfl) ?_
  refine Ln ?_
  refine J_seq ?_
  refine Sr ?_
  refine Lq (Q_fa0 rfl) ?_
  refine Lq (Q_ld 0 rfl rfl rfl rfl) ?_
  refine Ln ?_
  refine J_block ?_
  refine Sr ?_
  refine Lq ((Q_eql rfl rfl).as (v' := .bool false) rfl) ?_
  refine Lq (Q_assign rfl) ?_
  refine Ln ?_
  refine J_condF rfl ?_
  refine J_seq ?_
  refine Sr ?_
  refine Lq ((Q_eql rfl rfl).as (v' := .bool true) rfl) ?_
  refine Lq (Q_assign rfl) ?_
  refine Ln ?_
  refine J_condT rfl ?_
  refine J_skip ?_
  refine seqQ_normal ?_
  refine J_condT rfl ?_
  refine J_region ?_
  refine Lq (Q_fa0 rfl) ?_
  refine Lq (Q_ld 0 rfl rfl rfl rfl) ?_
  refine Lq ((Q_eql rfl rfl).as (v' := .bool true) rfl) ?_
  refine Lq (Q_assign rfl) ?_
  refine JL_nil ?_
  refine blockQ_normal ?_
  refine seqQ_normal ?_
  refine J_seq ?_
  refine Sr ?_
  refine Lq (Q_move rfl) ?_
  refine Lq ((Q_not rfl).as (v' := .bool false) rfl) ?_
  refine Lq (Q_move rfl) ?_
  refine Lq (Q_fa0 rfl) ?_
  refine Lq (Q_ld 0 rfl rfl rfl rfl) ?_
  refine Lq ((Q_lss rfl rfl).as (v' := .bool false) rfl) ?_
  refine Lq (Q_pickF rfl rfl) ?_
  refine Lq (Q_move rfl) ?_
  refine Lq (Q_fa0 rfl) ?_
  refine Lq (Q_ld 0 rfl rfl rfl rfl) ?_
  refine Lq ((Q_gtr rfl rfl).as (v' := .bool false) rfl) ?_
  refine Lq (Q_pickF rfl rfl) ?_
  refine Lq (Q_move rfl) ?_
  refine Lq (Q_fa0 rfl) ?_
  refine Lq (Q_ld 0 rfl rfl rfl rfl) ?_
  refine Lq ((Q_lss rfl rfl).as (v' := .bool false) rfl) ?_
  refine Lq (Q_pickF rfl rfl) ?_
  refine Lq (Q_move rfl) ?_
  refine Lq (Q_fa0 rfl) ?_
  refine Lq (Q_ld 0 rfl rfl rfl rfl) ?_
  refine Lq ((Q_geq rfl rfl).as (v' := .bool false) rfl) ?_
  refine Lq (Q_pickF rfl rfl) ?_
  refine Lq (Q_move rfl) ?_
  refine Lq (Q_fa0 rfl) ?_
  refine Lq (Q_ld 0 rfl rfl rfl rfl) ?_
  refine Lq (Q_slen rfl) ?_
  refine Lq ((Q_gtr rfl rfl).as (v' := .bool false) (congrArg Value.bool (decide_eq_false (by show ¬ (4096 : Int) < (v.length : Int); omega)))) ?_
  refine Lq (Q_pickF rfl rfl) ?_
  refine Ln ?_
  refine J_condF rfl ?_
  refine J_skip ?_
  refine seqQ_normal ?_
  refine Sr ?_
  refine Lq (Q_assign rfl) ?_
  refine Ln ?_
  refine J_ret ?_
  exact retQ_ret _ [] (.cons (RV_tmp rfl) .nil) ⟨rfl, rfl⟩ (Ent.re [1] rfl)
 ·refine Does.of Tryz.func120 rfl Tryz.ntmps120 rfl rfl fun F => ?_
  refine J.norm ?_
  refine Sr ?_
  refine L_o rfl rfl rfl (O_box rfl fun b1 => ?_)
  refine Lq (Q_assign rfl) ?_
  refine Ln ?_
  refine Sr ?_
  refine Lq (Q_assign rfl) ?_
  refine Ln ?_
  refine J_seq ?_
  refine Sr ?_
  refine Lq (Q_fa0 rfl) ?_
  refine Lq (Q_ld 0 rfl rfl rfl rfl) ?_
  refine Ln ?_
  refine J_block ?_
  refine Sr ?_
  refine Lq ((Q_eql rfl rfl).as (v' := .bool false) rfl) ?_
  refine Lq (Q_assign rfl) ?_
  refine Ln ?_
  refine J_condF rfl ?_
  refine J_seq ?_
  refine Sr ?_
  refine Lq ((Q_eql rfl rfl).as (v' := .bool false) rfl) ?_
  refine Lq (Q_assign rfl) ?_
  refine Ln ?_
  refine J_condF rfl ?_
  refine J_region ?_
  refine Lq ((Q_eql rfl rfl).as (v' := .bool true) rfl) ?_
  refine Lq (Q_assign rfl) ?_
  refine Ln ?_
  refine J_condT rfl ?_
  refine J_region ?_
  refine Lq (Q_fa0 rfl) ?_
  refine Lq (Q_ld 0 rfl rfl rfl rfl) ?_
  refine Lq ((Q_eql rfl rfl).as (v' := .bool true) rfl) ?_
  refine Lq (Q_assign rfl) ?_
  refine JL_nil ?_
  refine blockQ_normal ?_
  refine seqQ_normal ?_
  refine J_seq ?_
  refine Sr ?_
  refine Lq (Q_move rfl) ?_
  refine Lq ((Q_not rfl).as (v' := .bool false) rfl) ?_
  refine Lq (Q_move rfl) ?_
  refine Lq (Q_fa0 rfl) ?_
  refine Lq (Q_ld 0 rfl rfl rfl rfl) ?_
  refine Lq ((Q_lss rfl rfl).as (v' := .bool false) rfl) ?_
  refine Lq (Q_pickF rfl rfl) ?_
  refine Lq (Q_move rfl) ?_
  refine Lq (Q_fa0 rfl) ?_
  refine Lq (Q_ld 0 rfl rfl rfl rfl) ?_
  refine Lq ((Q_gtr rfl rfl).as (v' := .bool false) rfl) ?_
  refine Lq (Q_pickF rfl rfl) ?_
  refine Lq (Q_move rfl) ?_
  refine Lq (Q_fa0 rfl) ?_
  refine Lq (Q_ld 0 rfl rfl rfl rfl) ?_
  refine Lq ((Q_lss rfl rfl).as (v' := .bool false) rfl) ?_
  refine Lq (Q_pickF rfl rfl) ?_
  refine Lq (Q_move rfl) ?_
  refine Lq (Q_fa0 rfl) ?_
  refine Lq (Q_ld 0 rfl rfl rfl rfl) ?_
  refine Lq ((Q_geq rfl rfl).as (v' := .bool false) rfl) ?_
  refine Lq (Q_pickF rfl rfl) ?_
  refine Lq (Q_move rfl) ?_
  refine Lq (Q_fa0 rfl) ?_
  refine Lq (Q_ld 0 rfl rfl rfl rfl) ?_
  refine Lq (Q_slen rfl) ?_
  refine Lq ((Q_gtr rfl rfl).as (v' := .bool false) (congrArg Value.bool (decide_eq_false (by show ¬ (4096 : Int) < (v.length : Int); omega)))) ?_
  refine Lq (Q_pickF rfl rfl) ?_
  refine Ln ?_
  refine J_condF rfl ?_
  refine J_skip ?_
  refine seqQ_normal ?_
  refine Sr ?_
  refine Lq (Q_assign rfl) ?_
  refine Ln ?_
  refine J_ret ?_
  exact retQ_ret _ [] (.cons (RV_tmp rfl) .nil) ⟨rfl, rfl⟩ (Ent.re [1] rfl)
section
variable (E : World) (p pv : Nat) (A : Ag) (m : Value) (l : List Wd)
theorem countP_ok (v : Ky) (hh : A.h ≤ 64) (h0 : v ≠ []) (hv : v.length ≤ 4096) (hw : A.w0.value = []) : Does Tryz.prog E 106 [.pointer (some ⟨p, 0, none⟩), .agg (wdV (prop0 v)).toArray] [agC p A pv m] fun r L => r = .bool true ∧ L = [agC p (A.sW0 (prop0 v)) pv m] := by
 refine Does.of Tryz.func106 rfl Tryz.ntmps106 rfl rfl fun F => ?_
 refine J.norm ?_
 refine Sr ?_
 refine L_o rfl rfl rfl (O_box rfl fun b3 => ?_)
 refine Lq (Q_assign rfl) ?_
 refine Ln ?_
 refine J_seq ?_
 refine Sr ?_
 refine Lq (Q_fa0 rfl) ?_
 refine Lq (Q_ld 0 rfl rfl rfl rfl) ?_
 refine Lq ((Q_eql rfl rfl).as (v' := .bool false) rfl) ?_
 refine Ln ?_
 refine J_condF rfl ?_
 refine J_skip ?_
 refine seqQ_normal ?_
 refine J_seq ?_
 refine Sr ?_
 refine Lq (Q_ldA 0 rfl rfl rfl) ?_
 refine L_o rfl rfl rfl (O_call [] [0,1,2] (checkP_ok E v h0 hv) rfl rfl ?_)
 rintro _ _ ⟨rfl, rfl⟩
 refine JL.norm ?_
 refine Lq ((Q_neq rfl rfl).as (v' := .bool false) rfl) ?_
 refine Ln ?_
 refine J_condF rfl ?_
 refine J_skip ?_
 refine seqQ_normal ?_
 refine J_seq ?_
 refine Sr ?_
 refine Lq (Q_fa0 rfl) ?_
 refine Lq (Q_ld 0 rfl rfl rfl rfl) ?_
 refine Lq ((Q_neq rfl rfl).as (v' := .bool false) rfl) ?_
 refine Ln ?_
 refine J_condF rfl ?_
 refine J_skip ?_
 refine seqQ_normal ?_
 refine J_seq ?_
 refine J_seq ?_
 refine DH [0,1] [0,1,2,3,4,5,6,7,8,9,10,11,12,13,14,15,16,17,18,19,20,21,23,24] (.quiet 0 (.quiet 1 (.quiet 2 (.quiet 3 (.quiet 4 (.quiet 5 (.quiet 6 (.quiet 7 (.quiet 8 (.quiet 9 (.quiet 10 (.quiet 11 (.quiet 12 (.quiet 13 (.quiet 14 (.quiet 15 (.quiet 16 (.quiet 17 (.quiet 18 (.quiet 19 (.quiet 20 (.quiet 21 (.loud 22 (.quiet 23 (.quiet 24 .done))))))))))))))))))))))))) Tryz.mixed ?_
 refine Sq (Ent.re [0,1] rfl) rfl (Q_move rfl) ?_
 refine Sq (Ent.re [0,1] rfl) rfl (Q_fa0 rfl) ?_
 refine Sq (Ent.re [0,1] rfl) rfl (Q_ld 0 rfl rfl rfl rfl) ?_
 refine Sq (Ent.re [0,1] rfl) rfl (Q_nilCheck rfl) ?_
 refine Sq (Ent.re [0,1] rfl) rfl (Q_fa0 rfl) ?_
 refine Sq (Ent.re [0,1] rfl) rfl (Q_ia (o' := 10) 0 rfl rfl rfl (by decide) rfl) ?_
 refine Sq (Ent.re [0,1] rfl) rfl (Q_fa rfl rfl) ?_
 refine Sq (Ent.re [0,1] rfl) rfl (Q_ldG 1 rfl rfl rfl) ?_
 refine Sq (Ent.re [0,1] rfl) rfl ((Q_sneq rfl rfl).as (v' := .bool false) (congrArg Value.bool (decide_eq_false (by simp [hw])))) ?_
 refine Sq (Ent.re [0,1] rfl) rfl (Q_move rfl) ?_
 refine Sq (Ent.re [0,1] rfl) rfl (Q_fa0 rfl) ?_
 refine Sq (Ent.re [0,1] rfl) rfl (Q_ld 0 rfl rfl rfl rfl) ?_
 refine Sq (Ent.re [0,1] rfl) rfl (Q_move rfl) ?_
 refine Sq (Ent.re [0,1] rfl) rfl (Q_nilCheck rfl) ?_
 refine Sq (Ent.re [0,1] rfl) rfl (Q_fa0 rfl) ?_
 refine Sq (Ent.re [0,1] rfl) rfl (Q_ldG 1 rfl rfl rfl) ?_
 refine Sq (Ent.re [0,1] rfl) rfl (Q_move rfl) ?_
 refine Sq (Ent.re [0,1] rfl) rfl (Q_nilCheck rfl) ?_
 refine Sq (Ent.re [0,1] rfl) rfl (Q_fa0 rfl) ?_
 refine Sq (Ent.re [0,1] rfl) rfl (Q_ldG 1 rfl rfl rfl) ?_
 refine Sq (Ent.re [0,1] rfl) rfl (Q_fa0 rfl) ?_
 refine Sq (Ent.re [0,1] rfl) rfl (Q_ld 0 rfl rfl rfl rfl) ?_
 refine S_o rfl rfl rfl rfl (O_call [] [0,1,2] (leader_ok E A.h hh) rfl rfl ?_)
 (rintro _ _ ⟨rfl, rfl⟩; refine ⟨_, fun _ => ⟨Ent.reN [0,1] rfl, Ent.refl _⟩, ?_⟩)
 refine JS.norm ?_
 refine Sq (Ent.re [0,1] rfl) rfl ((Q_neq rfl rfl).as (v' := .bool false) rfl) ?_
 refine Sq (Ent.re [0,1] rfl) rfl (Q_pickF rfl rfl) ?_
 refine S_nil ?_
 refine seqQ_normal ?_
 refine J_condF rfl ?_
 refine J_skip ?_
 refine seqQ_normal ?_
 refine J_seq ?_
 refine DH [0,1] [0,1,2,3,4,5,6] (.quiet 0 (.quiet 1 (.quiet 2 (.quiet 3 (.quiet 4 (.quiet 5 (.quiet 6 (.loud 7 .done)))))))) Tryz.mixed ?_
 refine Sq (Ent.re [0,1] rfl) rfl (Q_move rfl) ?_
 refine Sq (Ent.re [0,1] rfl) rfl (Q_fa0 rfl) ?_
 refine Sq (Ent.re [0,1] rfl) rfl (Q_ld 0 rfl rfl rfl rfl) ?_
 refine Sq (Ent.re [0,1] rfl) rfl (Q_ldA 0 rfl rfl rfl) ?_
 refine Sq (Ent.re [0,1] rfl) rfl (Q_nilCheck rfl) ?_
 refine Sq (Ent.re [0,1] rfl) rfl (Q_fa0 rfl) ?_
 refine Sq (Ent.re [0,1] rfl) rfl (Q_ia (o' := 10) 0 rfl rfl rfl (by decide) rfl) ?_
 refine S_s rfl rfl rfl (O_stP 1 rfl rfl rfl rfl ⟨[], free_no (by kernel_rfl), ?_⟩)
 refine JS.norm ?_
 refine S_nil ?_
 refine seqQ_normal ?_
 refine Sr ?_
 refine Lq (Q_assign rfl) ?_
 refine Ln ?_
 refine J_ret ?_
 exact retQ_ret _ [agC p (A.sW0 (prop0 v)) pv m] (.cons (RV_tmp rfl) .nil) ⟨rfl, rfl⟩ (Ent.re [1,2] rfl)
theorem countV_ok (k : Int) (v : Ky) (hk : k = 2 ∨ k = 3) (hv : v.length ≤ 4096) (hl : ∀ w ∈ l, w.kind ≠ k) (hn : l.length ≤ 100) : Does Tryz.prog E 106 [.pointer (some ⟨p, 0, none⟩), .agg (wdV (vote0 k v)).toArray] [agC p A pv m, votA pv l] fun r L => r = .bool true ∧ L = [agC p A pv m, votA pv (l ++ [vote0 k v])] := by
 have hput := vput_ok E pv l k v hk hv hl hn
 have h4 : k ≠ 4 := by omega
 have h1 : k ≠ 1 := by omega
 refine Does.of Tryz.func106 rfl Tryz.ntmps106 rfl rfl fun F => ?_
 refine J.norm ?_
 refine Sr ?_
 refine L_o rfl rfl rfl (O_box rfl fun b3 => ?_)
 refine Lq (Q_assign rfl) ?_
 refine Ln ?_
 refine J_seq ?_
 refine Sr ?_
 refine Lq (Q_fa0 rfl) ?_
 refine Lq (Q_ld 0 rfl rfl rfl rfl) ?_
 refine Lq ((Q_eql rfl rfl).as (v' := .bool false) (congrArg Value.bool (decide_eq_false h4))) ?_
 refine Ln ?_
 refine J_condF rfl ?_
 refine J_skip ?_
 refine seqQ_normal ?_
 refine J_seq ?_
 refine Sr ?_
 refine Lq (Q_ldA 0 rfl rfl rfl) ?_
 refine L_o rfl rfl rfl (O_call [] [0,1,2,3] (checkV_ok E k v hk hv) rfl rfl ?_)
 rintro _ _ ⟨rfl, rfl⟩
 refine JL.norm ?_
 refine Lq ((Q_neq rfl rfl).as (v' := .bool false) rfl) ?_
 refine Ln ?_
 refine J_condF rfl ?_
 refine J_skip ?_
 refine seqQ_normal ?_
 refine J_seq ?_
 refine Sr ?_
 refine Lq (Q_fa0 rfl) ?_
 refine Lq (Q_ld 0 rfl rfl rfl rfl) ?_
 refine Lq ((Q_neq rfl rfl).as (v' := .bool true) (congrArg Value.bool (decide_eq_true h1))) ?_
 refine Ln ?_
 refine J_condT rfl ?_
 refine J_seq ?_
 refine DH [0,1] [0,1,2,3,4,6] (.quiet 0 (.quiet 1 (.quiet 2 (.quiet 3 (.quiet 4 (.loud 5 (.quiet 6 .done))))))) Tryz.mixed ?_
 refine Sq (Ent.re [0,1] rfl) rfl (Q_move rfl) ?_
 refine Sq (Ent.re [0,1] rfl) rfl (Q_nilCheck rfl) ?_
 refine Sq (Ent.re [0,1] rfl) rfl (Q_fa0 rfl) ?_
 refine Sq (Ent.re [0,1] rfl) rfl (Q_ldG 1 rfl rfl rfl) ?_
 refine Sq (Ent.re [0,1] rfl) rfl (Q_ldA 0 rfl rfl rfl) ?_
 refine S_o rfl rfl rfl rfl (O_call [2] [0,1,3] hput rfl rfl ?_)
 (rintro _ _ ⟨rfl, rfl⟩; refine ⟨_, fun _ => ⟨Ent.reN [1,2] rfl, Ent.refl _⟩, ?_⟩)
 refine JS.norm ?_
 refine Sq (Ent.re [1,2] rfl) rfl (Q_assign rfl) ?_
 refine S_nil ?_
 refine seqQ_normal ?_
 refine J_ret ?_
 refine seqQ_ret ?_
 exact retQ_ret _ [agC p A pv m, votA pv (l ++ [vote0 k v])] (.cons (RV_tmp rfl) .nil) ⟨rfl, rfl⟩ (Ent.re [2,0,3] rfl)
end
end Go.Proofs
