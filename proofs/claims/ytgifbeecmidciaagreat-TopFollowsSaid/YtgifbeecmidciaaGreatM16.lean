/- Part 16 of the texts below the row: Seg6, Txt, Ch1, Ch2, Sl27. -/
import Derived.Defers
import Derived.Test.YtgifbeecmidciaaGreatM15
/- A log in files: is there room; a drop; an append. -/
set_option autoImplicit false
namespace Go.Proofs
open Go.SL
attribute [local irreducible] J JL QOp JOp seqQ blockQ loopQ retQ slc cel hex star pur stars Does RV Ent pAt
attribute [local irreducible] fileAt diskAt
theorem room_ok (E : World) (p size sure n : Nat) (S : SV) (ps : List Fp) (hps : ps.length ≤ 16) (hn : n ≤ size) (hs : size ≤ 8192) :
 Does Tryz.prog E 89 [.pointer (some ⟨p, 0, none⟩), .int .i64 (n : Int)] [segC p size sure S, slc tPf true S ps, fsC ps] fun v L => v = .bool (roomB ⟨size, sure, ps.map (·.1)⟩ n) ∧ L = [segC p size sure S, slc tPf true S ps, fsC ps] := by
 have hl := last_ok E p size sure S ps hps
 refine Does.of Tryz.func89 rfl Tryz.ntmps89 rfl rfl fun F => ?_
 refine J.norm ?_
 rcases last_cases ps with rfl | ⟨a, ⟨f, q⟩, rfl⟩
 ·rw [show lastP [] = .pointer none from rfl] at hl
  refine Sr ?_
  refine Lq (Q_assign rfl) ?_
  refine Ln ?_
  refine Sr ?_
  refine Lq (Q_move rfl) ?_
  refine L_o rfl rfl rfl (O_call [0,1] [2,3] hl rfl rfl ?_)
  rintro _ _ ⟨rfl, rfl⟩
  refine JL.norm ?_
  refine Lq (Q_assign rfl) ?_
  refine Ln ?_
  refine J_seq ?_
  refine DL [0,1,2,3,4,5,6,8,9,10,11,12,13,14,15,16,17] (.quiet 0 (.quiet 1 (.quiet 2 (.quiet 3 (.quiet 4 (.quiet 5 (.quiet 6 (.quiet 9 (.quiet 10 (.quiet 11 (.quiet 12 (.quiet 13 (.quiet 14 (.loud 7 (.quiet 8 (.quiet 15 (.quiet 16 (.quiet 17 .done)))))))))))))))))) Tryz.mixed ?_
  refine Sq (Ent.refl _) rfl (Q_move rfl) ?_
  refine Sq (Ent.refl _) rfl ((Q_pneq rfl rfl).as (v' := .bool false) rfl) ?_
  refine Sq (Ent.refl _) rfl (Q_move rfl) ?_
  refine S_n (Ent.refl _) rfl rfl rfl rfl ?_
  refine S_n (Ent.refl _) rfl rfl rfl rfl ?_
  refine S_n (Ent.refl _) rfl rfl rfl rfl ?_
  refine S_n (Ent.refl _) rfl rfl rfl rfl ?_
  refine S_n (Ent.refl _) rfl rfl rfl rfl ?_
  refine S_n (Ent.refl _) rfl rfl rfl rfl ?_
  refine S_n (Ent.refl _) rfl rfl rfl rfl ?_
  refine S_n (Ent.refl _) rfl rfl rfl rfl ?_
  refine S_n (Ent.refl _) rfl rfl rfl rfl ?_
  refine S_n (Ent.refl _) rfl rfl rfl rfl ?_
  refine S_no rfl rfl rfl rfl (fun _ => (Ent.refl _)) ?_
  refine S_n (Ent.refl _) rfl rfl rfl rfl ?_
  refine S_n (Ent.refl _) rfl rfl rfl rfl ?_
  refine Sq (Ent.refl _) rfl (Q_pickF rfl rfl) ?_
  refine Sq (Ent.refl _) rfl (Q_assign rfl) ?_
  refine S_nil ?_
  refine seqQ_normal ?_
  refine J_ret ?_
  exact retQ_ret _ [segC p size sure S, slc tPf true S [], fsC []] (.cons (RV_tmp rfl) .nil) ⟨rfl, rfl⟩ (Ent.refl _)
 ·rw [lastP_snoc] at hl
  refine Sr ?_
  refine Lq (Q_assign rfl) ?_
  refine Ln ?_
  refine Sr ?_
  refine Lq (Q_move rfl) ?_
  refine L_o rfl rfl rfl (O_call [0,1] [2,3] hl rfl rfl ?_)
  rintro _ _ ⟨rfl, rfl⟩
  refine JL.norm ?_
  refine Lq (Q_assign rfl) ?_
  refine Ln ?_
  refine J_seq ?_
  refine J.ent ((Ent.re [2,0,1,3] rfl).trans (Ent.last_out fileAt a (f, q))) ?_
  refine J_file fun S1 dp => ?_
  have htx := text_ok E dp f.d
  have hdb : f.d.b = text f.l := rfl
  rw [hdb] at htx
  have e : roomB ⟨size, sure, (a ++ [(f, q)]).map (·.1)⟩ n = decide ((text f.l).length + n ≤ size) := by
   simp [roomB]
  rw [e]
  refine DH [0,4] [0,1,2,3,4,5,6,8,9,10,11,12,13,14,15,16,17] (.quiet 0 (.quiet 1 (.quiet 2 (.quiet 3 (.quiet 4 (.quiet 5 (.quiet 6 (.quiet 9 (.quiet 10 (.quiet 11 (.quiet 12 (.quiet 13 (.quiet 14 (.loud 7 (.quiet 8 (.quiet 15 (.quiet 16 (.quiet 17 .done)))))))))))))))))) Tryz.mixed ?_
  refine Sq (Ent.re [0,4] rfl) rfl (Q_move rfl) ?_
  refine Sq (Ent.re [0,4] rfl) rfl ((Q_pneq rfl rfl).as (v' := .bool true) rfl) ?_
  refine Sq (Ent.re [0,4] rfl) rfl (Q_move rfl) ?_
  refine Sq (Ent.re [0,4] rfl) rfl (Q_move rfl) ?_
  refine Sq (Ent.re [0,4] rfl) rfl (Q_nilCheck rfl) ?_
  refine Sq (Ent.re [0,4] rfl) rfl (Q_fa0 rfl) ?_
  refine Sq (Ent.re [0,4] rfl) rfl (Q_ld 0 rfl rfl rfl rfl) ?_
  refine Sq (Ent.re [0,4] rfl) rfl (Q_move rfl) ?_
  refine Sq (Ent.re [0,4] rfl) rfl (Q_nilCheck rfl) ?_
  refine Sq (Ent.re [0,4] rfl) rfl (Q_fa0 rfl) ?_
  refine Sq (Ent.re [0,4] rfl) rfl (Q_ld 1 rfl rfl rfl rfl) ?_
  refine Sq (Ent.re [0,4] rfl) rfl (Q_move rfl) ?_
  refine Sq (Ent.re [0,4] rfl) rfl (Q_sub rfl rfl (by first | exact IntWalk.i64_in _ (by omega) | exact IntWalk.u8_in _ (by omega) | exact IntWalk.u32_in _ (by omega) | exact IntWalk.u64_in _ (by omega) | rfl)) ?_
  refine S_o rfl rfl rfl rfl (O_call [2] [0,1,3,4,5,6] htx rfl rfl ?_)
  (rintro _ _ ⟨rfl, rfl⟩; refine ⟨_, fun _ => ⟨Ent.reN [1,4] rfl, Ent.refl _⟩, ?_⟩)
  refine JS.norm ?_
  refine Sq (Ent.re [1,4] rfl) rfl (Q_slen rfl) ?_
  refine Sq (Ent.re [1,4] rfl) rfl ((Q_leq rfl rfl).as (v' := .bool (decide ((text f.l).length + n ≤ size))) (congrArg Value.bool (by apply decide_eq_decide.2; omega))) ?_
  refine Sq (Ent.re [1,4] rfl) rfl (Q_pickT rfl rfl) ?_
  refine Sq (Ent.re [1,4] rfl) rfl (Q_assign rfl) ?_
  refine S_nil ?_
  refine seqQ_normal ?_
  refine J_ret ?_
  exact retQ_ret _ [segC p size sure S, slc tPf true S (a ++ [(f, q)]), fsC (a ++ [(f, q)])] (.cons (RV_tmp rfl) .nil) ⟨rfl, rfl⟩ (((Ent.re [1,2,0,3,4,5,6] rfl).trans (fileAt_mk (f := f) rfl rfl rfl rfl)).trans ((Ent.last_in fileAt a (f, q)).trans (Ent.re [1,2,0,3] rfl)))
end Go.Proofs
/- Texts compared, copied, found, taken out. -/
set_option autoImplicit false
namespace Go.SL
theorem Sat.slcB5 {α : Type} {τ : Ty α} {E w : World} {L : List HProp} (h : Sat E w L) (i : Nat) {S : SV} {l : List α} (hi : L[i]? = some (slc τ true S l)) : 0 < S.c → ∃ g o, S.a = some ⟨g, o, none⟩ := fun hc => by
 obtain ⟨p, ⟨_, _, hp⟩, _⟩ := h.at hi
 rcases hp with ⟨_, h0⟩ | ⟨_, _, hf0, _⟩ | ⟨g, o, ha, _⟩
 ·omega
 ·cases hf0
 ·exact ⟨g, o, ha⟩
end Go.SL
namespace Go.Proofs
open Go.SL Go.Proofs.Bt
attribute [local irreducible] J JL QOp JOp seqQ blockQ loopQ retQ slc cel hex star pur stars Does RV Ent pAt scopeQ
theorem rtexts_ok (E : World) (f f' : Bool) (S S' : SV) (l m : List Ky) (hl : l.length ≤ 100000000) : Does Tryz.prog E 13 [S.v, S'.v] [slc tS f S l, slc tS f' S' m] fun v L => v = .bool (decide (l = m)) ∧ L = [slc tS f S l, slc tS f' S' m] := by
 refine Does.of Tryz.func13 rfl Tryz.ntmps13 rfl rfl fun F => ?_
 refine J.norm ?_
 refine Sr ?_
 refine Lq (Q_assign rfl) ?_
 refine Ln ?_
 refine J_seq ?_
 refine Sr ?_
 refine Lq (Q_move rfl) ?_
 refine Lq (Q_lenAt 0 rfl rfl) ?_
 refine Lq (Q_move rfl) ?_
 refine Lq (Q_lenAt 1 rfl rfl) ?_
 refine Lq (Q_neq rfl rfl) ?_
 refine Ln ?_
 refine J_condD rfl (fun h => ?_) (fun h => ?_)
 ·have e : decide (l = m) = false := decide_eq_false (by rintro rfl; exact h rfl)
  rw [e]
  refine Sr ?_
  refine Lq (Q_assign rfl) ?_
  refine Ln ?_
  refine J_ret ?_
  refine seqQ_ret ?_
  exact retQ_ret _ [slc tS f S l, slc tS f' S' m] (.cons (RV_tmp rfl) .nil) ⟨rfl, rfl⟩ (Ent.refl _)
 have hlm : l.length = m.length := by omega
 refine J_skip ?_
 refine seqQ_normal ?_
 refine J_seq ?_
 refine Sr ?_
 refine Lq (Q_assign rfl) ?_
 refine Ln ?_
 refine J_block ?_
 refine J_loop (fun i : Nat => i ≤ l.length ∧ l.take i = m.take i) (fun i => [(0, S.v), (1, S'.v), (5, .int .i64 (i : Int))])
  (fun _ => [slc tS f S l, slc tS f' S' m, F]) (fun i => l.length - i) 0 ⟨by omega, rfl⟩ ⟨rfl, rfl, rfl, trivial⟩ (Ent.refl _) ?_
 rintro k ⟨hk, he⟩
 refine J_seq ?_
 refine Sr ?_
 refine Lq (Q_move rfl) ?_
 refine Lq (Q_move rfl) ?_
 refine Lq (Q_lenAt 0 rfl rfl) ?_
 refine Lq (Q_lss rfl rfl) ?_
 refine Ln ?_
 refine J_condD rfl (fun h2 => ?_) (fun h2 => ?_)
 ·have hl1 : k < l.length := by omega
  have hm1 : k < m.length := by omega
  by_cases hd : l[k] = m[k]
  ·refine J_skip ?_
   refine seqQ_normal ?_
   refine J_seq ?_
   refine J_block ?_
   refine J_seq ?_
   refine DH [0,1] [0,1,2,3,4,5,6,7,8] (.quiet 0 (.quiet 1 (.quiet 2 (.quiet 3 (.quiet 4 (.quiet 5 (.quiet 6 (.quiet 7 (.quiet 8 .done))))))))) Tryz.mixed ?_
   refine Sq (Ent.re [0,1] rfl) rfl (Q_move rfl) ?_
   refine Sq (Ent.re [0,1] rfl) rfl (Q_move rfl) ?_
   refine Sq (Ent.re [0,1] rfl) rfl (Q_ixAt 0 k rfl rfl rfl rfl hl1 rfl) ?_
   refine Sq (Ent.re [0,1] rfl) rfl (Q_ldEAt 0 k 0 (v := str l[k]) rfl rfl rfl rfl hl1 (by decide) rfl) ?_
   refine Sq (Ent.re [0,1] rfl) rfl (Q_move rfl) ?_
   refine Sq (Ent.re [0,1] rfl) rfl (Q_move rfl) ?_
   refine Sq (Ent.re [0,1] rfl) rfl (Q_ixAt 1 k rfl rfl rfl rfl hm1 rfl) ?_
   refine Sq (Ent.re [0,1] rfl) rfl (Q_ldEAt 1 k 0 (v := str m[k]) rfl rfl rfl rfl hm1 (by decide) rfl) ?_
   refine Sq (Ent.re [0,1] rfl) rfl ((Q_sneq rfl rfl).as (v' := .bool false) (congrArg Value.bool (decide_eq_false (by simp [hd])))) ?_
   refine S_nil ?_
   refine seqQ_normal ?_
   refine J_condF rfl ?_
   refine J_skip ?_
   refine blockQ_normal ?_
   refine seqQ_normal ?_
   refine J_region ?_
   refine Lq (Q_move rfl) ?_
   refine Lq (Q_add rfl rfl (by first | exact IntWalk.i64_in _ (by omega) | exact IntWalk.u8_in _ (by omega) | exact IntWalk.u32_in _ (by omega) | exact IntWalk.u64_in _ (by omega) | rfl)) ?_
   refine Lq (Q_assign rfl) ?_
   refine JL_nil ?_
   refine loopQ_normal (k + 1) ⟨by omega, ?_⟩ (by omega) ⟨rfl, rfl, rfl, trivial⟩ (Ent.refl _)
   rw [List.take_succ_eq_append_getElem hl1, List.take_succ_eq_append_getElem hm1, he, hd]
  ·have e : decide (l = m) = false := decide_eq_false (by rintro rfl; exact hd rfl)
   rw [e]
   refine J_skip ?_
   refine seqQ_normal ?_
   refine J_seq ?_
   refine J_block ?_
   refine J_seq ?_
   refine DH [0,1] [0,1,2,3,4,5,6,7,8] (.quiet 0 (.quiet 1 (.quiet 2 (.quiet 3 (.quiet 4 (.quiet 5 (.quiet 6 (.quiet 7 (.quiet 8 .done))))))))) Tryz.mixed ?_
   refine Sq (Ent.re [0,1] rfl) rfl (Q_move rfl) ?_
   refine Sq (Ent.re [0,1] rfl) rfl (Q_move rfl) ?_
   refine Sq (Ent.re [0,1] rfl) rfl (Q_ixAt 0 k rfl rfl rfl rfl hl1 rfl) ?_
   refine Sq (Ent.re [0,1] rfl) rfl (Q_ldEAt 0 k 0 (v := str l[k]) rfl rfl rfl rfl hl1 (by decide) rfl) ?_
   refine Sq (Ent.re [0,1] rfl) rfl (Q_move rfl) ?_
   refine Sq (Ent.re [0,1] rfl) rfl (Q_move rfl) ?_
   refine Sq (Ent.re [0,1] rfl) rfl (Q_ixAt 1 k rfl rfl rfl rfl hm1 rfl) ?_
   refine Sq (Ent.re [0,1] rfl) rfl (Q_ldEAt 1 k 0 (v := str m[k]) rfl rfl rfl rfl hm1 (by decide) rfl) ?_
   refine Sq (Ent.re [0,1] rfl) rfl ((Q_sneq rfl rfl).as (v' := .bool true) (congrArg Value.bool (decide_eq_true hd))) ?_
   refine S_nil ?_
   refine seqQ_normal ?_
   refine J_condT rfl ?_
   refine Sr ?_
   refine Lq (Q_assign rfl) ?_
   refine Ln ?_
   refine J_ret ?_
   refine blockQ_ret ?_
   refine seqQ_ret ?_
   refine loopQ_ret ?_
   refine blockQ_ret ?_
   refine seqQ_ret ?_
   exact retQ_ret _ [slc tS f S l, slc tS f' S' m] (.cons (RV_tmp rfl) .nil) ⟨rfl, rfl⟩ (Ent.refl _)
 ·obtain rfl : k = l.length := by omega
  rw [List.take_length, hlm, List.take_length] at he
  rw [decide_eq_true he]
  refine J_exit ?_
  refine seqQ_exit ?_
  refine loopQ_exit ?_
  refine blockQ_hit ?_
  refine seqQ_normal ?_
  refine Sr ?_
  refine Lq (Q_assign rfl) ?_
  refine Ln ?_
  refine J_ret ?_
  exact retQ_ret _ [slc tS f S l, slc tS f' S' m] (.cons (RV_tmp rfl) .nil) ⟨rfl, rfl⟩ (Ent.refl _)
theorem sclone_ok (E : World) (S : SV) (l : List Ky) (hl : l.length ≤ 100000000) : Does Tryz.prog E 32 [S.v] [slc tS true S l] fun v L => ∃ T : SV, v = T.v ∧ L = [slc tS true S l, slc tS true T l] := by
 refine Does.of Tryz.func32 rfl Tryz.ntmps32 rfl rfl fun F => ?_
 refine J.norm ?_
 refine J.have (p := S.n = l.length ∧ S.n ≤ S.c ∧ (0 < S.c → ∃ g o, S.a = some ⟨g, o, none⟩)) (fun w hs => ⟨(hs.rd 0 rfl).1, (hs.rd 0 rfl).2.1, hs.slcB5 0 rfl⟩) fun ⟨hn, hc, ha⟩ => ?_
 refine Sr ?_
 refine Lq (Q_assign rfl) ?_
 refine Ln ?_
 refine J_seq ?_
 refine J_seq ?_
 cases h : S.a with
 | none =>
  have h0 : l = [] := List.eq_nil_of_length_eq_zero (by
   rcases Nat.eq_zero_or_pos S.c with h0 | h0
   ·omega
   ·obtain ⟨g, o, e⟩ := ha h0; rw [h] at e; cases e)
  subst h0
  refine J_region ?_
  refine Lq (Q_move rfl) ?_
  refine Lq ((Q_slnil (S := S) rfl rfl).as (v' := .bool true) (by rw [h]; rfl)) ?_
  refine Ln ?_
  refine J_condT rfl ?_
  refine Sr ?_
  refine Lq (Q_assign rfl) ?_
  refine Ln ?_
  refine J_ret ?_
  refine seqQ_ret ?_
  refine retQ_ret _ [slc tS true S [], slc tS true SV.nil []] (.cons (RV_tmp rfl) .nil) ⟨SV.nil, rfl, rfl⟩ ?_
  exact (Ent.mk fun _ _ h => (h.lay_nil tS true : Sat _ _ (slc tS true SV.nil [] :: _))).trans (Ent.re [1,0,2] rfl)
 | some a =>
  refine J_region ?_
  refine Lq (Q_move rfl) ?_
  refine Lq ((Q_slnil (S := S) rfl rfl).as (v' := .bool false) (by rw [h]; rfl)) ?_
  refine Ln ?_
  refine J_condF rfl ?_
  refine J_skip ?_
  refine seqQ_normal ?_
  refine Sr ?_
  refine L_o rfl rfl rfl (O_litP (τ := tS) (m := 0) (sz := 1) [] rfl rfl rfl rfl rfl rfl (by decide) (fun U => ?_))
  refine JL.norm ?_
  refine Lq (Q_move rfl) ?_
  refine L_o rfl rfl rfl (O_app (τ := tS) 0 rfl (fun w h => h.rd 1 rfl) rfl rfl rfl rfl (by simp; omega) (by decide) (fun T => ?_))
  refine JL.norm ?_
  refine Lq (Q_assign rfl) ?_
  refine Ln ?_
  refine J_ret ?_
  exact retQ_ret _ [slc tS true S l, slc tS true T l] (.cons (RV_tmp rfl) .nil) ⟨T, rfl, rfl⟩ (Ent.re [1,0,2] rfl)
theorem sdelete_ok (E : World) (S : SV) (l : List Ky) (i j : Nat) (hij : i ≤ j) (hj : j ≤ l.length) (hl : l.length ≤ 100000) :
 Does Tryz.prog E 61 [S.v, .int .i64 (i : Int), .int .i64 (j : Int)] [slc tS true S l] fun v L => ∃ S' : SV, v = S'.v ∧ L = [slc tS true S' (l.take i ++ l.drop j)] := by
 refine Does.of Tryz.func61 rfl Tryz.ntmps61 rfl rfl fun F => ?_
 refine J.norm ?_
 refine J.have (p := S.n = l.length ∧ S.n ≤ S.c) (fun w hs => ⟨(hs.rd 0 rfl).1, (hs.rd 0 rfl).2.1⟩) fun hS => ?_
 refine Sr ?_
 refine Lq (Q_assign rfl) ?_
 refine Ln ?_
 refine Sr ?_
 refine Lq (Q_move rfl) ?_
 refine Lq (Q_move rfl) ?_
 refine Lq (Q_move rfl) ?_
 refine Lq (Q_move rfl) ?_
 refine Lq (Q_lenAt 0 rfl rfl) ?_
 refine Lq (Q_sl3 (τ := tS) i j l.length rfl rfl rfl rfl rfl rfl rfl hij hj (by omega) rfl) ?_
 refine Ln ?_
 refine J_seq ?_
 refine Sr ?_
 refine Lq (Q_move rfl) ?_
 refine Lq (Q_move rfl) ?_
 refine Lq (Q_eql rfl rfl) ?_
 refine Ln ?_
 refine J_condD rfl (fun h => ?_) (fun h => ?_)
 ·obtain rfl : i = j := by omega
  refine Sr ?_
  refine Lq (Q_move rfl) ?_
  refine Lq (Q_assign rfl) ?_
  refine Ln ?_
  refine J_ret ?_
  refine seqQ_ret ?_
  exact retQ_ret _ [slc tS true S l] (.cons (RV_tmp rfl) .nil) ⟨S, rfl, by rw [List.take_append_drop]⟩ (Ent.refl _)
 ·have hm : (l.take l.length).drop j = l.drop j := by rw [List.take_length]
  have hlen : (l.take i ++ l.drop j).length = i + (l.length - j) := by simp; omega
  refine J_skip ?_
  refine seqQ_normal ?_
  refine Sr ?_
  refine Lq (Q_move rfl) ?_
  refine Lq (Q_lenAt 0 rfl rfl) ?_
  refine Lq (Q_assign rfl) ?_
  refine Ln ?_
  refine J_seq ?_
  refine DH [] [0,1,2,3,4,5,7] (.quiet 0 (.quiet 1 (.quiet 2 (.quiet 3 (.quiet 4 (.quiet 5 (.loud 6 (.quiet 7 .done)))))))) Tryz.mixed ?_
  refine Sq (Ent.re [] rfl) rfl (Q_move rfl) ?_
  refine Sq (Ent.re [] rfl) rfl (Q_move rfl) ?_
  refine Sq (Ent.re [] rfl) rfl (Q_slHc (τ := tS) i rfl rfl rfl (by omega)) ?_
  refine Sq (Ent.re [] rfl) rfl (Q_move rfl) ?_
  refine Sq (Ent.re [] rfl) rfl (Q_move rfl) ?_
  refine Sq (Ent.re [] rfl) rfl (Q_slLc (τ := tS) j l.length rfl rfl rfl hS.1 hj rfl) ?_
  refine S_o rfl rfl rfl rfl (O_appIn (τ := tS) 0 i rfl (fun w h => (h.rd 0 rfl).sub j l.length hj (Nat.le_refl _)) rfl rfl rfl (by omega) (by simp; omega) ⟨[], fun _ => ⟨Ent.re [] rfl, Ent.refl _⟩, ?_⟩)
  refine JS.norm ?_
  refine Sq (Ent.re [] rfl) rfl (Q_assign rfl) ?_
  refine S_nil ?_
  refine seqQ_normal ?_
  refine J_seq ?_
  rw [hm]
  have hS' : (⟨(S.sub tS.sz 0 i).a, i + (l.drop j).length, S.c⟩ : SV).c = S.c := rfl
  generalize (⟨(S.sub tS.sz 0 i).a, i + (l.drop j).length, S.c⟩ : SV) = T at hS' ⊢
  refine J_region ?_
  refine Lq (Q_move rfl) ?_
  refine Lq (Q_move rfl) ?_
  refine Lq (Q_lenAt 0 rfl rfl) ?_
  refine Lq (Q_move rfl) ?_
  refine Lq (Q_slLHc (τ := tS) (i + (l.length - j)) l.length rfl rfl rfl (by rw [hlen]) rfl (by omega) (by omega) rfl) ?_
  refine L_s rfl rfl (O_clear (τ := tS) 0 (i + (l.length - j)) l.length rfl rfl rfl rfl (by simp [Value.cells, Value.oneCell']) (by omega) (by omega) (by omega) ?_)
  refine JL.norm ?_
  refine Ln ?_
  refine Sr ?_
  refine Lq (Q_move rfl) ?_
  refine Lq (Q_assign rfl) ?_
  refine Ln ?_
  refine J_ret ?_
  exact retQ_ret _ [slc tS true T (l.take i ++ l.drop j)] (.cons (RV_tmp rfl) .nil) ⟨T, rfl, rfl⟩ (Ent.refl _)
theorem sindex_ok (E : World) (f : Bool) (S : SV) (l : List Ky) (v : Ky) (hl : l.length ≤ 100000) : Does Tryz.prog E 60 [S.v, str v] [slc tS f S l] fun r L => r = .int .i64 (if v ∈ l then (l.idxOf v : Int) else -1) ∧ L = [slc tS f S l] := by
 refine Does.of Tryz.func60 rfl Tryz.ntmps60 rfl rfl fun F => ?_
 refine J.norm ?_
 refine Sr ?_
 refine Lq (Q_assign rfl) ?_
 refine Ln ?_
 refine J_seq ?_
 refine Sr ?_
 refine Lq (Q_move rfl) ?_
 refine Lq (Q_lenAt 0 rfl rfl) ?_
 refine Lq (Q_move rfl) ?_
 refine Ln ?_
 refine J_block ?_
 refine J_loop (fun i : Nat => i ≤ l.length ∧ v ∉ l.take i) (fun i => [(0, S.v), (1, str v), (7, .int .i64 (l.length : Int)), (8, .int .i64 (i : Int))]) (fun _ => [slc tS f S l, F]) (fun i => l.length - i) 0 ⟨Nat.zero_le _, by simp⟩ ⟨rfl, rfl, rfl, rfl, trivial⟩ (Ent.refl _) ?_
 rintro k ⟨hk, hn⟩
 refine Sr ?_
 refine Lq (Q_lss rfl rfl) ?_
 refine Ln ?_
 refine J_seq ?_
 refine J_condD rfl (fun h2 => ?_) (fun h2 => ?_)
 ·have hlt : k < l.length := by omega
  by_cases e : v = l[k]
  ·have hm : v ∈ l := by rw [e]; exact List.getElem_mem hlt
   have hi : l.idxOf v = k := by
    have h1 : l = l.take k ++ l.drop k := (List.take_append_drop k l).symm
    have h2 : l.drop k = v :: l.drop (k + 1) := by rw [List.drop_eq_getElem_cons hlt, ← e]
    rw [h1, List.idxOf_append, if_neg hn, h2, List.length_take]
    simp; omega
   refine J_skip ?_
   refine seqQ_normal ?_
   refine J_seq ?_
   refine J_block ?_
   refine Sr ?_
   refine Lq (Q_move rfl) ?_
   refine Lq (Q_assign rfl) ?_
   refine Ln ?_
   refine Sr ?_
   refine Lq (Q_move rfl) ?_
   refine Lq (Q_move rfl) ?_
   refine Lq (Q_move rfl) ?_
   refine Lq (Q_ixAt 0 k rfl rfl rfl rfl hlt rfl) ?_
   refine Lq (Q_ldEAt 0 k 0 (v := str l[k]) rfl rfl rfl rfl hlt (by decide) rfl) ?_
   refine Lq ((Q_seql rfl rfl).as (v' := .bool true) (congrArg Value.bool (decide_eq_true e))) ?_
   refine Ln ?_
   refine J_condT rfl ?_
   refine Sr ?_
   refine Lq (Q_move rfl) ?_
   refine Lq (Q_assign rfl) ?_
   refine Ln ?_
   refine J_ret ?_
   refine blockQ_ret ?_
   refine seqQ_ret ?_
   refine loopQ_ret ?_
   refine blockQ_ret ?_
   refine seqQ_ret ?_
   exact retQ_ret _ [slc tS f S l] (.cons (RV_tmp rfl) .nil) ⟨by rw [if_pos hm, hi]; rfl, rfl⟩ (Ent.refl _)
  ·refine J_skip ?_
   refine seqQ_normal ?_
   refine J_seq ?_
   refine J_block ?_
   refine Sr ?_
   refine Lq (Q_move rfl) ?_
   refine Lq (Q_assign rfl) ?_
   refine Ln ?_
   refine Sr ?_
   refine Lq (Q_move rfl) ?_
   refine Lq (Q_move rfl) ?_
   refine Lq (Q_move rfl) ?_
   refine Lq (Q_ixAt 0 k rfl rfl rfl rfl hlt rfl) ?_
   refine Lq (Q_ldEAt 0 k 0 (v := str l[k]) rfl rfl rfl rfl hlt (by decide) rfl) ?_
   refine Lq ((Q_seql rfl rfl).as (v' := .bool false) (congrArg Value.bool (decide_eq_false e))) ?_
   refine Ln ?_
   refine J_condF rfl ?_
   refine J_skip ?_
   refine blockQ_normal ?_
   refine seqQ_normal ?_
   refine J_region ?_
   refine Lq (Q_add rfl rfl (by first | exact IntWalk.i64_in _ (by omega) | exact IntWalk.u8_in _ (by omega) | exact IntWalk.u32_in _ (by omega) | exact IntWalk.u64_in _ (by omega) | rfl)) ?_
   refine Lq (Q_move rfl) ?_
   refine JL_nil ?_
   refine loopQ_normal (k + 1) ⟨hlt, ?_⟩ (by show l.length - (k + 1) < l.length - k; omega) ⟨rfl, rfl, rfl, rfl, trivial⟩ (Ent.refl _)
   rw [List.take_succ_eq_append_getElem hlt, List.mem_append, List.mem_singleton]
   exact fun h => h.elim hn e
 ·obtain rfl : k = l.length := by omega
  rw [List.take_length] at hn
  refine J_exit ?_
  refine seqQ_exit ?_
  refine loopQ_exit ?_
  refine blockQ_hit ?_
  refine seqQ_normal ?_
  refine Sr ?_
  refine Lq (Q_assign rfl) ?_
  refine Ln ?_
  refine J_ret ?_
  exact retQ_ret _ [slc tS f S l] (.cons (RV_tmp rfl) .nil) ⟨by rw [if_neg hn]; rfl, rfl⟩ (Ent.refl _)
end Go.Proofs
/- A chain of one node: it is made, it wants, it begins. -/
set_option autoImplicit false
namespace Go.Proofs
open Go.SL Go.Proofs.Bt
abbrev tlV (x : Nat × Wd) : List Value := [.int .i64 (x.1 : Int), .int .i64 x.2.kind, .int .i64 x.2.from', .int .i64 x.2.round, .int .i64 x.2.valid, str x.2.value]
def tTa : Ty (Nat × Wd) := ⟨61, 6, tlV, fun _ => rfl, by decide, fun a v hv => by simp [tlV] at hv; rcases hv with rfl | rfl | rfl | rfl | rfl | rfl <;> rfl⟩
instance : TyI Tryz.prog tTa.e 6 (.agg #[.int .i64 0, .int .i64 0, .int .i64 0, .int .i64 0, .int .i64 0, .string ⟨#[]⟩]) 56 := inferInstanceAs (TyI Tryz.prog 61 6 (.agg #[.int .i64 0, .int .i64 0, .int .i64 0, .int .i64 0, .int .i64 0, .string ⟨#[]⟩]) 56)
instance : TyU Tryz.prog 29 (.slice tTa.e) := inferInstanceAs (TyU Tryz.prog 29 (.slice 61))
abbrev chC (p : Nat) (bg : Bool) (part : Value) (X Y : Value) : HProp := cel p [.int .i64 1, .int .i64 0, .int .i64 1, .bool bg, part, X, Y] 67
abbrev none0 : Ky := [126]
def mayV (v : Ky) : Bool := decide (v ≠ []) && decide (v.length ≤ 4096)
theorem mayV_t {v : Ky} (h : mayV v = true) : v ≠ [] ∧ v.length ≤ 4096 := by simpa [mayV] using h
/-- What a node wants first. -/
def ownOf (w : List Ky) : Ky := w.headD none0
/-- The agreement behind its start. -/
def ag1 (h : Nat) (own : Ky) : Ag := (((ag0 h own).sRound 0).sStep 1).sSeen false
attribute [local irreducible] J JL QOp JOp seqQ blockQ loopQ retQ slc cel hex star pur stars Does RV Ent pAt scopeQ
attribute [local irreducible] votA agL zer63 bz122
section
variable (E : World)
theorem cmay_ok (v : Ky) : Does Tryz.prog E 29 [str v] [] fun r L => r = .bool (mayV v) ∧ L = [] := by
 refine Does.of Tryz.func29 rfl Tryz.ntmps29 rfl rfl fun F => ?_
 refine J.norm ?_
 refine Sr ?_
 refine Lq (Q_assign rfl) ?_
 refine Ln ?_
 refine J_seq ?_
 by_cases h0 : v = []
 ·skip
  refine J_region ?_
  refine Lq (Q_move rfl) ?_
  refine Lq ((Q_sneq rfl rfl).as (v' := .bool false) (congrArg Value.bool (decide_eq_false (by simp [h0])))) ?_
  refine Lq (Q_move rfl) ?_
  refine L_n rfl rfl rfl ?_
  refine L_n rfl rfl rfl ?_
  refine L_n rfl rfl rfl ?_
  refine Lq (Q_pickF rfl rfl) ?_
  refine Lq (Q_assign rfl) ?_
  refine Ln ?_
  refine J_ret ?_
  exact retQ_ret _ [] (.cons (RV_tmp rfl) .nil) ⟨by simp [mayV, h0, oneOf], rfl⟩ (Ent.refl _)
 ·skip
  refine J_region ?_
  refine Lq (Q_move rfl) ?_
  refine Lq ((Q_sneq rfl rfl).as (v' := .bool true) (congrArg Value.bool (decide_eq_true h0))) ?_
  refine Lq (Q_move rfl) ?_
  refine Lq (Q_move rfl) ?_
  refine Lq (Q_slen rfl) ?_
  refine Lq ((Q_leq rfl rfl).as (v' := .bool (decide (v.length ≤ 4096))) (congrArg Value.bool (decide_eq_decide.2 (by omega)))) ?_
  refine Lq (Q_pickT rfl rfl) ?_
  refine Lq (Q_assign rfl) ?_
  refine Ln ?_
  refine J_ret ?_
  exact retQ_ret _ [] (.cons (RV_tmp rfl) .nil) ⟨by simp [mayV, h0, oneOf], rfl⟩ (Ent.refl _)
theorem cnew_ok : Does Tryz.prog E 6 [.int .i64 1, .int .i64 0, .int .i64 1] [] fun r L => ∃ p : Nat, r = .pointer (some ⟨p, 0, none⟩) ∧ L = [chC p false (.pointer none) SV.nil.v SV.nil.v, slc tS true SV.nil [], slc tS true SV.nil []] := by
 refine Does.of Tryz.func6 rfl Tryz.ntmps6 rfl rfl fun F => ?_
 refine J.norm ?_
 refine Sr ?_
 refine Lq (Q_assign rfl) ?_
 refine Ln ?_
 refine J_seq ?_
 refine Sr ?_
 refine Lq (Q_move rfl) ?_
 refine Lq (Q_move rfl) ?_
 refine Lq (Q_move rfl) ?_
 refine L_o rfl rfl rfl (O_call [] [0] (agnew_ok E 0 none0 (by decide) (by decide) (by decide)) rfl rfl ?_)
 rintro _ _ ⟨pa, pv, rfl, rfl⟩
 refine JL.norm ?_
 refine Lq ((Q_peql rfl rfl).as (v' := .bool false) rfl) ?_
 refine Ln ?_
 refine J_condF rfl ?_
 refine J_skip ?_
 refine seqQ_normal ?_
 refine Sr ?_
 refine Lq (Q_move rfl) ?_
 refine Lq (Q_move rfl) ?_
 refine Lq (Q_move rfl) ?_
 refine Lq (Q_build rfl) ?_
 refine L_o rfl rfl rfl (O_box rfl fun b16 => ?_)
 refine Lq (Q_assign rfl) ?_
 refine Ln ?_
 refine J_ret ?_
 refine retQ_ret _ [chC b16 false (.pointer none) SV.nil.v SV.nil.v, slc tS true SV.nil [], slc tS true SV.nil []] (.cons (RV_tmp rfl) .nil) ⟨b16, rfl, rfl⟩ ?_
 exact (Ent.mk fun _ _ h => (h.lay_nil tS true : Sat _ _ (slc tS true SV.nil [] :: _))).trans ((Ent.mk fun _ _ h => (h.lay_nil tS true : Sat _ _ (slc tS true SV.nil [] :: _))).trans (Ent.re [2,0,1,5] rfl))
variable (p : Nat) (Sl Sw : SV) (log wants : List Ky)
theorem cwant_ok (bg : Bool) (part X : Value) (v : Ky) (hv : mayV v = true) (hw : wants.length < 8) : Does Tryz.prog E 24 [.pointer (some ⟨p, 0, none⟩), str v] [chC p bg part X Sw.v, slc tS true Sw wants] fun r L => ∃ S : SV, r = .int .i64 0 ∧ L = [chC p bg part X S.v, slc tS true S (wants ++ [v])] := by
 have hm := cmay_ok E v
 rw [hv] at hm
 refine Does.of Tryz.func24 rfl Tryz.ntmps24 rfl rfl fun F => ?_
 refine J.norm ?_
 refine Sr ?_
 refine Lq (Q_assign rfl) ?_
 refine Ln ?_
 refine J_seq ?_
 refine J_block ?_
 refine Sr ?_
 refine Lq (Q_move rfl) ?_
 refine Lq ((Q_peql rfl rfl).as (v' := .bool false) rfl) ?_
 refine Lq (Q_move rfl) ?_
 refine Lq (Q_move rfl) ?_
 refine L_o rfl rfl rfl (O_call [] [0,1,2] hm rfl rfl ?_)
 rintro _ _ ⟨rfl, rfl⟩
 refine JL.norm ?_
 refine Lq ((Q_not rfl).as (v' := .bool false) rfl) ?_
 refine Lq (Q_pickF rfl rfl) ?_
 refine Lq (Q_assign rfl) ?_
 refine Ln ?_
 refine J_condF rfl ?_
 refine Sr ?_
 refine Lq (Q_move rfl) ?_
 refine Lq (Q_nilCheck rfl) ?_
 refine Lq (Q_fa0 rfl) ?_
 refine Lq (Q_ld 0 rfl rfl rfl rfl) ?_
 refine Lq (Q_lenAt 1 rfl rfl) ?_
 refine Lq ((Q_geq rfl rfl).as (v' := .bool false) (congrArg Value.bool (decide_eq_false (by omega)))) ?_
 refine Lq (Q_assign rfl) ?_
 refine Ln ?_
 refine J_condF rfl ?_
 refine J_skip ?_
 refine blockQ_normal ?_
 refine seqQ_normal ?_
 refine Sr ?_
 refine Lq (Q_move rfl) ?_
 refine Lq (Q_move rfl) ?_
 refine Lq (Q_nilCheck rfl) ?_
 refine Lq (Q_fa0 rfl) ?_
 refine Lq (Q_ld 0 rfl rfl rfl rfl) ?_
 refine Lq (Q_move rfl) ?_
 refine L_o rfl rfl rfl (O_litP (τ := tS) (m := 1) (sz := 1) [v] rfl rfl rfl rfl rfl rfl (by decide) (fun U => ?_))
 refine JL.norm ?_
 refine L_o rfl rfl rfl (O_app (τ := tS) 2 rfl (fun w h => h.rd 0 rfl) rfl rfl rfl rfl (by simp only [List.length_singleton]; omega) (by decide) (fun S => ?_))
 refine JL.norm ?_
 refine Lq (Q_nilCheck rfl) ?_
 refine Lq (Q_fa0 rfl) ?_
 refine L_s rfl rfl (O_st1 1 rfl rfl rfl rfl rfl ?_)
 refine JL.norm ?_
 refine Ln ?_
 refine Sr ?_
 refine Lq (Q_assign rfl) ?_
 refine Ln ?_
 refine J_ret ?_
 exact retQ_ret _ [chC p bg part X S.v, slc tS true S (wants ++ [v])] (.cons (RV_tmp rfl) .nil) ⟨S, rfl, rfl⟩ (Ent.re [1,2,3] rfl)
theorem cover_ok (bg : Bool) (part Y : Value) (hl : log.length < 64) : Does Tryz.prog E 30 [.pointer (some ⟨p, 0, none⟩)] [chC p bg part Sl.v Y, slc tS true Sl log] fun r L => r = .bool false ∧ L = [chC p bg part Sl.v Y, slc tS true Sl log] := by
 refine Does.of Tryz.func30 rfl Tryz.ntmps30 rfl rfl fun F => ?_
 refine J.norm ?_
 refine Sr ?_
 refine Lq (Q_assign rfl) ?_
 refine Ln ?_
 refine Sr ?_
 refine Lq (Q_move rfl) ?_
 refine Lq (Q_nilCheck rfl) ?_
 refine Lq (Q_fa0 rfl) ?_
 refine Lq (Q_ld 0 rfl rfl rfl rfl) ?_
 refine Lq (Q_lenAt 1 rfl rfl) ?_
 refine Lq ((Q_geq rfl rfl).as (v' := .bool false) (congrArg Value.bool (decide_eq_false (by omega)))) ?_
 refine Lq (Q_assign rfl) ?_
 refine Ln ?_
 refine J_ret ?_
 exact retQ_ret _ [chC p bg part Sl.v Y, slc tS true Sl log] (.cons (RV_tmp rfl) .nil) ⟨rfl, rfl⟩ (Ent.refl _)
theorem ctalls_ok (bg : Bool) (part Y : Value) (S : SV) (l : List Wd) (hl : l.length ≤ 1000) : Does Tryz.prog E 58 [.pointer (some ⟨p, 0, none⟩), S.v] [chC p bg part Sl.v Y, slc tS true Sl log, slc tWd true S l] fun r L => ∃ T : SV, r = T.v ∧ L = [chC p bg part Sl.v Y, slc tS true Sl log, slc tWd true S l, slc tTa true T (l.map fun w => (log.length, w))] := by
 refine Does.of Tryz.func58 rfl Tryz.ntmps58 rfl rfl fun F => ?_
 refine J.norm ?_
 refine Sr ?_
 refine Lq (Q_assign rfl) ?_
 refine Ln ?_
 refine Sr ?_
 refine Lq (Q_assign rfl) ?_
 refine Ln ?_
 refine J_seq ?_
 refine Sr ?_
 refine Lq (Q_move rfl) ?_
 refine Lq (Q_lenAt 2 rfl rfl) ?_
 refine Lq (Q_move rfl) ?_
 refine Ln ?_
 refine J_block ?_
 refine J.ent (Ent.mk fun _ _ h => (h.lay_nil tTa true : Sat _ _ (slc tTa true SV.nil [] :: _))) ?_
 refine J_loop (fun i : Nat × SV => i.1 ≤ l.length) (fun i => [(0, .pointer (some ⟨p, 0, none⟩)), (5, i.2.v), (8, S.v), (9, .int .i64 (l.length : Int)), (10, .int .i64 (i.1 : Int))]) (fun i => [slc tTa true i.2 ((l.take i.1).map fun w => (log.length, w)), chC p bg part Sl.v Y, slc tS true Sl log, slc tWd true S l, F]) (fun i => l.length - i.1) (0, SV.nil) (Nat.zero_le _) ⟨rfl, rfl, rfl, rfl, rfl, trivial⟩ (Ent.refl _) ?_
 rintro ⟨k, T⟩ hk
 dsimp only at hk ⊢
 refine Sr ?_
 refine Lq (Q_lss rfl rfl) ?_
 refine Ln ?_
 refine J_seq ?_
 refine J_condD rfl (fun h2 => ?_) (fun h2 => ?_)
 ·have hlt : k < l.length := by omega
  have hst : (l.take (k + 1)).map (fun w => (log.length, w)) = (l.take k).map (fun w => (log.length, w)) ++ [(log.length, l[k])] := by rw [List.take_succ_eq_append_getElem hlt, List.map_append]; rfl
  refine J_skip ?_
  refine seqQ_normal ?_
  refine J_seq ?_
  refine J_block ?_
  refine Sr ?_
  refine Lq (Q_ixAt 3 k rfl rfl rfl rfl hlt rfl) ?_
  refine Lq (Q_ldEAAt 3 k 0 (vs := wdV l[k]) rfl rfl rfl rfl hlt (by decide) rfl) ?_
  refine L_o rfl rfl rfl (O_alloc fun b7 => ?_)
  refine L_s rfl rfl (O_stW 0 rfl rfl rfl rfl ?_)
  refine JL.norm ?_
  refine Ln ?_
  refine DH [0,2,3] [0,1,2,3,4,5,6,7,10] (.quiet 0 (.quiet 1 (.quiet 2 (.quiet 3 (.quiet 4 (.quiet 5 (.quiet 6 (.quiet 7 (.loud 8 (.loud 9 (.quiet 10 .done))))))))))) Tryz.mixed ?_
  refine Sq (Ent.re [0,2,3] rfl) rfl (Q_move rfl) ?_
  refine Sq (Ent.re [0,2,3] rfl) rfl (Q_move rfl) ?_
  refine Sq (Ent.re [0,2,3] rfl) rfl (Q_nilCheck rfl) ?_
  refine Sq (Ent.re [0,2,3] rfl) rfl (Q_fa0 rfl) ?_
  refine Sq (Ent.re [0,2,3] rfl) rfl (Q_ld 1 rfl rfl rfl rfl) ?_
  refine Sq (Ent.re [0,2,3] rfl) rfl (Q_lenAt 2 rfl rfl) ?_
  refine Sq (Ent.re [0,2,3] rfl) rfl (Q_ldA 0 rfl rfl rfl) ?_
  refine Sq (Ent.re [0,2,3] rfl) rfl (Q_build rfl) ?_
  refine S_o rfl rfl rfl rfl (O_litP (τ := tTa) (m := 1) (sz := 6) [(log.length, l[k])] rfl rfl rfl rfl rfl rfl (by decide) (fun U => ⟨_, fun _ => ⟨Ent.reN [1,3,4] rfl, Ent.refl _⟩, ?_⟩))
  refine JS.norm ?_
  refine S_o rfl rfl rfl rfl (O_app (τ := tTa) 2 rfl (fun w h => h.rd 0 rfl) rfl rfl rfl rfl (by simp; omega) (by decide) (fun T2 => ⟨_, fun _ => ⟨Ent.reN [1,3,4] rfl, Ent.refl _⟩, ?_⟩))
  refine JS.norm ?_
  refine Sq (Ent.re [1,3,4] rfl) rfl (Q_assign rfl) ?_
  refine S_nil ?_
  refine blockQ_normal ?_
  refine seqQ_normal ?_
  refine J_region ?_
  refine Lq (Q_add rfl rfl (by first | exact IntWalk.i64_in _ (by omega) | exact IntWalk.u8_in _ (by omega) | exact IntWalk.u32_in _ (by omega) | exact IntWalk.u64_in _ (by omega) | rfl)) ?_
  refine Lq (Q_move rfl) ?_
  refine JL_nil ?_
  exact loopQ_normal (k + 1, T2) hlt (by show l.length - (k + 1) < l.length - k; omega) ⟨rfl, rfl, rfl, rfl, rfl, trivial⟩ (by dsimp only; rw [hst]; exact Ent.re [2,3,4,5,6] rfl)
 ·obtain rfl : k = l.length := by omega
  rw [List.take_length]
  refine J_exit ?_
  refine seqQ_exit ?_
  refine loopQ_exit ?_
  refine blockQ_hit ?_
  refine seqQ_normal ?_
  refine Sr ?_
  refine Lq (Q_move rfl) ?_
  refine Lq (Q_assign rfl) ?_
  refine Ln ?_
  refine J_ret ?_
  exact retQ_ret _ [chC p bg part Sl.v Y, slc tS true Sl log, slc tWd true S l, slc tTa true T (l.map fun w => (log.length, w))] (.cons (RV_tmp rfl) .nil) ⟨T, rfl, rfl⟩ (Ent.re [1,2,3,0,4] rfl)
theorem cbegin_ok (bg : Bool) (part : Value) (hl : log.length < 64) (hw : ∀ v ∈ wants, mayV v = true) (hwl : wants.length ≤ 8) : Does Tryz.prog E 28 [.pointer (some ⟨p, 0, none⟩)] [chC p bg part Sl.v Sw.v, slc tS true Sl log, slc tS true Sw wants] fun r L => ∃ (pa pv : Nat) (T : SV), r = T.v ∧ L = [chC p bg (.pointer (some ⟨pa, 0, none⟩)) Sl.v Sw.v, slc tS true Sl log, slc tS true Sw wants, agC pa (ag1 log.length (ownOf wants)) pv .nilFunc, votA pv [], slc tTa true T [(log.length, prop0 (ownOf wants))]] := by
 have hov := cover_ok E p Sl log bg part Sw.v hl
 have hown : mayV (ownOf wants) = true := by
  cases wants with
  | nil => rfl
  | cons w r => exact hw w (by simp)
 obtain ⟨ho1, ho2⟩ := mayV_t hown
 have hnew := agnew_ok E log.length (ownOf wants) (by omega) ho1 ho2
 have hst := fun pa pv => astart_ok E pa pv log.length (ownOf wants) (by omega)
 have hta := fun part S => ctalls_ok E p Sl log bg part Sw.v S [prop0 (ownOf wants)] (by show 1 ≤ 1000; decide)
 cases wants with
 | nil =>
  refine Does.of Tryz.func28 rfl Tryz.ntmps28 rfl rfl fun F => ?_
  refine J.norm ?_
  refine Sr ?_
  refine Lq (Q_assign rfl) ?_
  refine Ln ?_
  refine J_seq ?_
  refine Sr ?_
  refine Lq (Q_move rfl) ?_
  refine L_o rfl rfl rfl (O_call [0,1] [2,3] hov rfl rfl ?_)
  rintro _ _ ⟨rfl, rfl⟩
  refine JL.norm ?_
  refine Ln ?_
  refine J_condF rfl ?_
  refine J_skip ?_
  refine seqQ_normal ?_
  refine Sr ?_
  refine Lq (Q_assign rfl) ?_
  refine Ln ?_
  refine J_seq ?_
  refine Sr ?_
  refine Lq (Q_move rfl) ?_
  refine Lq (Q_nilCheck rfl) ?_
  refine Lq (Q_fa0 rfl) ?_
  refine Lq (Q_ld 0 rfl rfl rfl rfl) ?_
  refine Lq (Q_lenAt 2 rfl rfl) ?_
  refine Lq ((Q_gtr rfl rfl).as (v' := .bool false) rfl) ?_
  refine Ln ?_
  refine J_condF rfl ?_
  refine J_skip ?_
  refine seqQ_normal ?_
  refine J_seq ?_
  refine DH [0,1] [0,1,2,3,4,5,6,7,8,9,10,11,12,13,14,15,16,17,18,20,21] (.quiet 0 (.quiet 1 (.quiet 2 (.quiet 3 (.quiet 4 (.quiet 5 (.quiet 6 (.quiet 7 (.quiet 8 (.quiet 9 (.quiet 10 (.quiet 11 (.quiet 12 (.quiet 13 (.quiet 14 (.quiet 15 (.quiet 16 (.quiet 17 (.quiet 18 (.loud 19 (.quiet 20 (.quiet 21 (.loud 22 .done))))))))))))))))))))))) Tryz.mixed ?_
  refine Sq (Ent.re [0,1] rfl) rfl (Q_move rfl) ?_
  refine Sq (Ent.re [0,1] rfl) rfl (Q_move rfl) ?_
  refine Sq (Ent.re [0,1] rfl) rfl (Q_nilCheck rfl) ?_
  refine Sq (Ent.re [0,1] rfl) rfl (Q_fa0 rfl) ?_
  refine Sq (Ent.re [0,1] rfl) rfl (Q_ld 0 rfl rfl rfl rfl) ?_
  refine Sq (Ent.re [0,1] rfl) rfl (Q_move rfl) ?_
  refine Sq (Ent.re [0,1] rfl) rfl (Q_nilCheck rfl) ?_
  refine Sq (Ent.re [0,1] rfl) rfl (Q_fa0 rfl) ?_
  refine Sq (Ent.re [0,1] rfl) rfl (Q_ld 0 rfl rfl rfl rfl) ?_
  refine Sq (Ent.re [0,1] rfl) rfl (Q_move rfl) ?_
  refine Sq (Ent.re [0,1] rfl) rfl (Q_nilCheck rfl) ?_
  refine Sq (Ent.re [0,1] rfl) rfl (Q_fa0 rfl) ?_
  refine Sq (Ent.re [0,1] rfl) rfl (Q_ld 0 rfl rfl rfl rfl) ?_
  refine Sq (Ent.re [0,1] rfl) rfl (Q_move rfl) ?_
  refine Sq (Ent.re [0,1] rfl) rfl (Q_nilCheck rfl) ?_
  refine Sq (Ent.re [0,1] rfl) rfl (Q_fa0 rfl) ?_
  refine Sq (Ent.re [0,1] rfl) rfl (Q_ld 0 rfl rfl rfl rfl) ?_
  refine Sq (Ent.re [0,1] rfl) rfl (Q_lenAt 1 rfl rfl) ?_
  refine Sq (Ent.re [0,1] rfl) rfl (Q_move rfl) ?_
  refine S_o rfl rfl rfl rfl (O_call [] [0,1,2,3] hnew rfl rfl ?_)
  (rintro _ _ ⟨pa, pv, rfl, rfl⟩; refine ⟨_, fun _ => ⟨Ent.reN [2,3] rfl, Ent.refl _⟩, ?_⟩)
  refine JS.norm ?_
  refine Sq (Ent.re [2,3] rfl) rfl (Q_nilCheck rfl) ?_
  refine Sq (Ent.re [2,3] rfl) rfl (Q_fa0 rfl) ?_
  refine S_s rfl rfl rfl (O_st1 2 rfl rfl rfl rfl rfl ⟨[], free_no (by kernel_rfl), ?_⟩)
  refine JS.norm ?_
  refine S_nil ?_
  refine seqQ_normal ?_
  refine Sr ?_
  refine Lq (Q_move rfl) ?_
  refine Lq (Q_move rfl) ?_
  refine Lq (Q_nilCheck rfl) ?_
  refine Lq (Q_fa0 rfl) ?_
  refine Lq (Q_ld 2 rfl rfl rfl rfl) ?_
  refine L_o rfl rfl rfl (O_call [0] [1,2,3,4,5] (hst pa pv) rfl rfl ?_)
  rintro _ _ ⟨S, rfl, rfl⟩
  refine JL.norm ?_
  refine L_o rfl rfl rfl (O_call [3,4,1] [0,2,5,6] (hta (.pointer (some ⟨pa, 0, none⟩)) S) rfl rfl ?_)
  rintro _ _ ⟨T, rfl, rfl⟩
  refine JL.norm ?_
  refine Lq (Q_assign rfl) ?_
  refine Ln ?_
  refine J_ret ?_
  exact retQ_ret _ [chC p bg (.pointer (some ⟨pa, 0, none⟩)) Sl.v Sw.v, slc tS true Sl log, slc tS true Sw [], agC pa (ag1 log.length (ownOf [])) pv .nilFunc, votA pv [], slc tTa true T [(log.length, prop0 (ownOf []))]] (.cons (RV_tmp rfl) .nil) ⟨pa, pv, T, rfl, rfl⟩ (Ent.re [0,1,6,4,5,3,7] rfl)
 | cons w r =>
  refine Does.of Tryz.func28 rfl Tryz.ntmps28 rfl rfl fun F => ?_
  refine J.norm ?_
  refine Sr ?_
  refine Lq (Q_assign rfl) ?_
  refine Ln ?_
  refine J_seq ?_
  refine Sr ?_
  refine Lq (Q_move rfl) ?_
  refine L_o rfl rfl rfl (O_call [0,1] [2,3] hov rfl rfl ?_)
  rintro _ _ ⟨rfl, rfl⟩
  refine JL.norm ?_
  refine Ln ?_
  refine J_condF rfl ?_
  refine J_skip ?_
  refine seqQ_normal ?_
  refine Sr ?_
  refine Lq (Q_assign rfl) ?_
  refine Ln ?_
  refine J_seq ?_
  refine Sr ?_
  refine Lq (Q_move rfl) ?_
  refine Lq (Q_nilCheck rfl) ?_
  refine Lq (Q_fa0 rfl) ?_
  refine Lq (Q_ld 0 rfl rfl rfl rfl) ?_
  refine Lq (Q_lenAt 2 rfl rfl) ?_
  refine Lq ((Q_gtr rfl rfl).as (v' := .bool true) (congrArg Value.bool (decide_eq_true (by simp only [List.length_cons]; omega)))) ?_
  refine Ln ?_
  refine J_condT rfl ?_
  refine J_region ?_
  refine Lq (Q_move rfl) ?_
  refine Lq (Q_nilCheck rfl) ?_
  refine Lq (Q_fa0 rfl) ?_
  refine Lq (Q_ld 0 rfl rfl rfl rfl) ?_
  refine Lq (Q_ixAt 2 0 rfl rfl rfl rfl (by simp) rfl) ?_
  refine Lq (Q_ldEAt 2 0 0 (v := str w) rfl rfl rfl rfl (by simp) (by decide) rfl) ?_
  refine Lq (Q_assign rfl) ?_
  refine Ln ?_
  refine J_seq ?_
  refine DH [0,1] [0,1,2,3,4,5,6,7,8,9,10,11,12,13,14,15,16,17,18,20,21] (.quiet 0 (.quiet 1 (.quiet 2 (.quiet 3 (.quiet 4 (.quiet 5 (.quiet 6 (.quiet 7 (.quiet 8 (.quiet 9 (.quiet 10 (.quiet 11 (.quiet 12 (.quiet 13 (.quiet 14 (.quiet 15 (.quiet 16 (.quiet 17 (.quiet 18 (.loud 19 (.quiet 20 (.quiet 21 (.loud 22 .done))))))))))))))))))))))) Tryz.mixed ?_
  refine Sq (Ent.re [0,1] rfl) rfl (Q_move rfl) ?_
  refine Sq (Ent.re [0,1] rfl) rfl (Q_move rfl) ?_
  refine Sq (Ent.re [0,1] rfl) rfl (Q_nilCheck rfl) ?_
  refine Sq (Ent.re [0,1] rfl) rfl (Q_fa0 rfl) ?_
  refine Sq (Ent.re [0,1] rfl) rfl (Q_ld 0 rfl rfl rfl rfl) ?_
  refine Sq (Ent.re [0,1] rfl) rfl (Q_move rfl) ?_
  refine Sq (Ent.re [0,1] rfl) rfl (Q_nilCheck rfl) ?_
  refine Sq (Ent.re [0,1] rfl) rfl (Q_fa0 rfl) ?_
  refine Sq (Ent.re [0,1] rfl) rfl (Q_ld 0 rfl rfl rfl rfl) ?_
  refine Sq (Ent.re [0,1] rfl) rfl (Q_move rfl) ?_
  refine Sq (Ent.re [0,1] rfl) rfl (Q_nilCheck rfl) ?_
  refine Sq (Ent.re [0,1] rfl) rfl (Q_fa0 rfl) ?_
  refine Sq (Ent.re [0,1] rfl) rfl (Q_ld 0 rfl rfl rfl rfl) ?_
  refine Sq (Ent.re [0,1] rfl) rfl (Q_move rfl) ?_
  refine Sq (Ent.re [0,1] rfl) rfl (Q_nilCheck rfl) ?_
  refine Sq (Ent.re [0,1] rfl) rfl (Q_fa0 rfl) ?_
  refine Sq (Ent.re [0,1] rfl) rfl (Q_ld 0 rfl rfl rfl rfl) ?_
  refine Sq (Ent.re [0,1] rfl) rfl (Q_lenAt 1 rfl rfl) ?_
  refine Sq (Ent.re [0,1] rfl) rfl (Q_move rfl) ?_
  refine S_o rfl rfl rfl rfl (O_call [] [0,1,2,3] hnew rfl rfl ?_)
  (rintro _ _ ⟨pa, pv, rfl, rfl⟩; refine ⟨_, fun _ => ⟨Ent.reN [2,3] rfl, Ent.refl _⟩, ?_⟩)
  refine JS.norm ?_
  refine Sq (Ent.re [2,3] rfl) rfl (Q_nilCheck rfl) ?_
  refine Sq (Ent.re [2,3] rfl) rfl (Q_fa0 rfl) ?_
  refine S_s rfl rfl rfl (O_st1 2 rfl rfl rfl rfl rfl ⟨[], free_no (by kernel_rfl), ?_⟩)
  refine JS.norm ?_
  refine S_nil ?_
  refine seqQ_normal ?_
  refine Sr ?_
  refine Lq (Q_move rfl) ?_
  refine Lq (Q_move rfl) ?_
  refine Lq (Q_nilCheck rfl) ?_
  refine Lq (Q_fa0 rfl) ?_
  refine Lq (Q_ld 2 rfl rfl rfl rfl) ?_
  refine L_o rfl rfl rfl (O_call [0] [1,2,3,4,5] (hst pa pv) rfl rfl ?_)
  rintro _ _ ⟨S, rfl, rfl⟩
  refine JL.norm ?_
  refine L_o rfl rfl rfl (O_call [3,4,1] [0,2,5,6] (hta (.pointer (some ⟨pa, 0, none⟩)) S) rfl rfl ?_)
  rintro _ _ ⟨T, rfl, rfl⟩
  refine JL.norm ?_
  refine Lq (Q_assign rfl) ?_
  refine Ln ?_
  refine J_ret ?_
  exact retQ_ret _ [chC p bg (.pointer (some ⟨pa, 0, none⟩)) Sl.v Sw.v, slc tS true Sl log, slc tS true Sw (w :: r), agC pa (ag1 log.length (ownOf (w :: r))) pv .nilFunc, votA pv [], slc tTa true T [(log.length, prop0 (ownOf (w :: r)))]] (.cons (RV_tmp rfl) .nil) ⟨pa, pv, T, rfl, rfl⟩ (Ent.re [0,1,6,4,5,3,7] rfl)
end
end Go.Proofs
/- A chain of one node: started; what is decided; what others decided. -/
set_option autoImplicit false
namespace Go.Proofs
open Go.SL Go.Proofs.Bt
/-- What is wanted behind a decision. -/
def delW (wants : List Ky) (v : Ky) : List Ky := if v ∈ wants then wants.take (wants.idxOf v) ++ wants.drop (wants.idxOf v + 1) else wants
theorem delW_mem {wants : List Ky} {v x : Ky} (h : x ∈ delW wants v) : x ∈ wants := by
 unfold delW at h
 split at h
 ·rcases List.mem_append.1 h with h | h
  ·exact List.mem_of_mem_take h
  ·exact List.mem_of_mem_drop h
 ·exact h
theorem delW_len (wants : List Ky) (v : Ky) : (delW wants v).length ≤ wants.length := by
 unfold delW
 split
 ·simp; omega
 ·exact Nat.le_refl _
attribute [local irreducible] J JL QOp JOp seqQ blockQ loopQ retQ slc cel hex star pur stars Does RV Ent pAt scopeQ
attribute [local irreducible] votA agL zer63 bz122
section
variable (E : World) (p : Nat) (Sl Sw : SV) (log wants : List Ky)
theorem cstart_ok (part : Value) (hl : log.length < 64) (hw : ∀ v ∈ wants, mayV v = true) (hwl : wants.length ≤ 8) : Does Tryz.prog E 7 [.pointer (some ⟨p, 0, none⟩)] [chC p false part Sl.v Sw.v, slc tS true Sl log, slc tS true Sw wants] fun r L => ∃ (pa pv : Nat) (T : SV), r = T.v ∧ L = [chC p true (.pointer (some ⟨pa, 0, none⟩)) Sl.v Sw.v, slc tS true Sl log, slc tS true Sw wants, agC pa (ag1 log.length (ownOf wants)) pv .nilFunc, votA pv [], slc tTa true T [(log.length, prop0 (ownOf wants))]] := by
 have hb := cbegin_ok E p Sl Sw log wants true part hl hw hwl
 refine Does.of Tryz.func7 rfl Tryz.ntmps7 rfl rfl fun F => ?_
 refine J.norm ?_
 refine Sr ?_
 refine Lq (Q_assign rfl) ?_
 refine Ln ?_
 refine J_seq ?_
 refine Sr ?_
 refine Lq (Q_move rfl) ?_
 refine Lq ((Q_peql rfl rfl).as (v' := .bool false) rfl) ?_
 refine Lq (Q_move rfl) ?_
 refine Lq (Q_move rfl) ?_
 refine Lq (Q_nilCheck rfl) ?_
 refine Lq (Q_fa0 rfl) ?_
 refine Lq (Q_ld 0 rfl rfl rfl rfl) ?_
 refine Lq (Q_pickF rfl rfl) ?_
 refine Ln ?_
 refine J_condF rfl ?_
 refine J_skip ?_
 refine seqQ_normal ?_
 refine Sr ?_
 refine Lq (Q_move rfl) ?_
 refine Lq (Q_nilCheck rfl) ?_
 refine Lq (Q_fa0 rfl) ?_
 refine L_s rfl rfl (O_st1 0 rfl rfl rfl rfl rfl ?_)
 refine JL.norm ?_
 refine Ln ?_
 refine Sr ?_
 refine Lq (Q_move rfl) ?_
 refine L_o rfl rfl rfl (O_call [0,1,2] [3] hb rfl rfl ?_)
 rintro _ _ ⟨pa, pv, T, rfl, rfl⟩
 refine JL.norm ?_
 refine Lq (Q_assign rfl) ?_
 refine Ln ?_
 refine J_ret ?_
 exact retQ_ret _ [chC p true (.pointer (some ⟨pa, 0, none⟩)) Sl.v Sw.v, slc tS true Sl log, slc tS true Sw wants, agC pa (ag1 log.length (ownOf wants)) pv .nilFunc, votA pv [], slc tTa true T [(log.length, prop0 (ownOf wants))]] (.cons (RV_tmp rfl) .nil) ⟨pa, pv, T, rfl, rfl⟩ (Ent.refl _)
theorem cdecided_ok (bg : Bool) (part : Value) (v : Ky) (hl : log.length < 63) (hw : ∀ v ∈ wants, mayV v = true) (hwl : wants.length ≤ 8) : Does Tryz.prog E 31 [.pointer (some ⟨p, 0, none⟩), str v] [chC p bg part Sl.v Sw.v, slc tS true Sl log, slc tS true Sw wants] fun r L => ∃ (pa pv : Nat) (Tl Tw T : SV), r = T.v ∧ L = [chC p bg (.pointer (some ⟨pa, 0, none⟩)) Tl.v Tw.v, slc tS true Tl (log ++ [v]), slc tS true Tw (delW wants v), agC pa (ag1 (log ++ [v]).length (ownOf (delW wants v))) pv .nilFunc, votA pv [], slc tTa true T [((log ++ [v]).length, prop0 (ownOf (delW wants v)))]] := by
 have hix := sindex_ok E true Sw wants v (by omega)
 have hlen : (log ++ [v]).length < 64 := by rw [List.length_append, List.length_singleton]; omega
 have hb := fun Tl Tw part => cbegin_ok E p Tl Tw (log ++ [v]) (delW wants v) bg part hlen (fun x hx => hw x (delW_mem hx)) (Nat.le_trans (delW_len _ _) hwl)
 by_cases hm : v ∈ wants
 ·have hi := List.idxOf_lt_length_of_mem hm
  have hdl := sdelete_ok E Sw wants (wants.idxOf v) (wants.idxOf v + 1) (by omega) (by omega) (by omega)
  have hdw : wants.take (wants.idxOf v) ++ wants.drop (wants.idxOf v + 1) = delW wants v := by unfold delW; rw [if_pos hm]
  rw [if_pos hm] at hix
  rw [hdw] at hdl
  generalize wants.idxOf v = at0 at *
  generalize delW wants v = w2 at *
  refine Does.of Tryz.func31 rfl Tryz.ntmps31 rfl rfl fun F => ?_
  refine J.norm ?_
  refine Sr ?_
  refine Lq (Q_assign rfl) ?_
  refine Ln ?_
  refine Sr ?_
  refine Lq (Q_move rfl) ?_
  refine Lq (Q_move rfl) ?_
  refine Lq (Q_nilCheck rfl) ?_
  refine Lq (Q_fa0 rfl) ?_
  refine Lq (Q_ld 0 rfl rfl rfl rfl) ?_
  refine Lq (Q_move rfl) ?_
  refine L_o rfl rfl rfl (O_litP (τ := tS) (m := 1) (sz := 1) [v] rfl rfl rfl rfl rfl rfl (by decide) (fun U => ?_))
  refine JL.norm ?_
  refine L_o rfl rfl rfl (O_app (τ := tS) 2 rfl (fun w h => h.rd 0 rfl) rfl rfl rfl rfl (by simp only [List.length_singleton]; omega) (by decide) (fun Tl => ?_))
  refine JL.norm ?_
  refine Lq (Q_nilCheck rfl) ?_
  refine Lq (Q_fa0 rfl) ?_
  refine L_s rfl rfl (O_st1 1 rfl rfl rfl rfl rfl ?_)
  refine JL.norm ?_
  refine Ln ?_
  refine J_seq ?_
  refine Sr ?_
  refine Lq (Q_move rfl) ?_
  refine Lq (Q_nilCheck rfl) ?_
  refine Lq (Q_fa0 rfl) ?_
  refine Lq (Q_ld 1 rfl rfl rfl rfl) ?_
  refine Lq (Q_move rfl) ?_
  refine L_o rfl rfl rfl (O_call [3] [0,1,2,4] hix rfl rfl ?_)
  rintro _ _ ⟨rfl, rfl⟩
  refine JL.norm ?_
  refine Lq (Q_assign rfl) ?_
  refine Ln ?_
  refine Sr ?_
  refine Lq (Q_move rfl) ?_
  refine Lq ((Q_geq rfl rfl).as (v' := .bool true) (congrArg Value.bool (decide_eq_true (by omega)))) ?_
  refine Ln ?_
  refine J_condT rfl ?_
  refine J_region ?_
  refine Lq (Q_move rfl) ?_
  refine Lq (Q_move rfl) ?_
  refine Lq (Q_nilCheck rfl) ?_
  refine Lq (Q_fa0 rfl) ?_
  refine Lq (Q_ld 2 rfl rfl rfl rfl) ?_
  refine Lq (Q_move rfl) ?_
  refine Lq (Q_move rfl) ?_
  refine Lq (Q_add rfl rfl (by first | exact IntWalk.i64_in _ (by omega) | exact IntWalk.u8_in _ (by omega) | exact IntWalk.u32_in _ (by omega) | exact IntWalk.u64_in _ (by omega) | rfl)) ?_
  refine L_o rfl rfl rfl (O_call [0] [1,2,3,4] hdl rfl rfl ?_)
  rintro _ _ ⟨Tw, rfl, rfl⟩
  refine JL.norm ?_
  refine Lq (Q_nilCheck rfl) ?_
  refine Lq (Q_fa0 rfl) ?_
  refine L_s rfl rfl (O_st1 2 rfl rfl rfl rfl rfl ?_)
  refine JL.norm ?_
  refine Ln ?_
  refine Sr ?_
  refine Lq (Q_move rfl) ?_
  refine L_o rfl rfl rfl (O_call [2,3,0] [1,4] (hb Tl Tw part) rfl rfl ?_)
  rintro _ _ ⟨pa, pv, T, rfl, rfl⟩
  refine JL.norm ?_
  refine Lq (Q_assign rfl) ?_
  refine Ln ?_
  refine J_ret ?_
  exact retQ_ret _ [chC p bg (.pointer (some ⟨pa, 0, none⟩)) Tl.v Tw.v, slc tS true Tl (log ++ [v]), slc tS true Tw w2, agC pa (ag1 (log ++ [v]).length (ownOf w2)) pv .nilFunc, votA pv [], slc tTa true T [((log ++ [v]).length, prop0 (ownOf w2))]] (.cons (RV_tmp rfl) .nil) ⟨pa, pv, Tl, Tw, T, rfl, rfl⟩ (Ent.re [0,1,2,3,4,5,7] rfl)
 ·have hdw : delW wants v = wants := by unfold delW; rw [if_neg hm]
  rw [if_neg hm] at hix
  rw [hdw] at hb ⊢
  refine Does.of Tryz.func31 rfl Tryz.ntmps31 rfl rfl fun F => ?_
  refine J.norm ?_
  refine Sr ?_
  refine Lq (Q_assign rfl) ?_
  refine Ln ?_
  refine Sr ?_
  refine Lq (Q_move rfl) ?_
  refine Lq (Q_move rfl) ?_
  refine Lq (Q_nilCheck rfl) ?_
  refine Lq (Q_fa0 rfl) ?_
  refine Lq (Q_ld 0 rfl rfl rfl rfl) ?_
  refine Lq (Q_move rfl) ?_
  refine L_o rfl rfl rfl (O_litP (τ := tS) (m := 1) (sz := 1) [v] rfl rfl rfl rfl rfl rfl (by decide) (fun U => ?_))
  refine JL.norm ?_
  refine L_o rfl rfl rfl (O_app (τ := tS) 2 rfl (fun w h => h.rd 0 rfl) rfl rfl rfl rfl (by simp only [List.length_singleton]; omega) (by decide) (fun Tl => ?_))
  refine JL.norm ?_
  refine Lq (Q_nilCheck rfl) ?_
  refine Lq (Q_fa0 rfl) ?_
  refine L_s rfl rfl (O_st1 1 rfl rfl rfl rfl rfl ?_)
  refine JL.norm ?_
  refine Ln ?_
  refine J_seq ?_
  refine Sr ?_
  refine Lq (Q_move rfl) ?_
  refine Lq (Q_nilCheck rfl) ?_
  refine Lq (Q_fa0 rfl) ?_
  refine Lq (Q_ld 1 rfl rfl rfl rfl) ?_
  refine Lq (Q_move rfl) ?_
  refine L_o rfl rfl rfl (O_call [3] [0,1,2,4] hix rfl rfl ?_)
  rintro _ _ ⟨rfl, rfl⟩
  refine JL.norm ?_
  refine Lq (Q_assign rfl) ?_
  refine Ln ?_
  refine Sr ?_
  refine Lq (Q_move rfl) ?_
  refine Lq ((Q_geq rfl rfl).as (v' := .bool false) rfl) ?_
  refine Ln ?_
  refine J_condF rfl ?_
  refine J_skip ?_
  refine seqQ_normal ?_
  refine Sr ?_
  refine Lq (Q_move rfl) ?_
  refine L_o rfl rfl rfl (O_call [2,3,0] [1,4] (hb Tl Sw part) rfl rfl ?_)
  rintro _ _ ⟨pa, pv, T, rfl, rfl⟩
  refine JL.norm ?_
  refine Lq (Q_assign rfl) ?_
  refine Ln ?_
  refine J_ret ?_
  exact retQ_ret _ [chC p bg (.pointer (some ⟨pa, 0, none⟩)) Tl.v Sw.v, slc tS true Tl (log ++ [v]), slc tS true Sw wants, agC pa (ag1 (log ++ [v]).length (ownOf wants)) pv .nilFunc, votA pv [], slc tTa true T [((log ++ [v]).length, prop0 (ownOf wants))]] (.cons (RV_tmp rfl) .nil) ⟨pa, pv, Tl, Sw, T, rfl, rfl⟩ (Ent.re [0,1,2,3,4,5,7] rfl)
theorem clog_ok (bg : Bool) (part Y : Value) (hl : log.length ≤ 1000) : Does Tryz.prog E 9 [.pointer (some ⟨p, 0, none⟩)] [chC p bg part Sl.v Y, slc tS true Sl log] fun r L => ∃ T : SV, r = T.v ∧ L = [chC p bg part Sl.v Y, slc tS true Sl log, slc tS true T log] := by
 have hc := sclone_ok E Sl log (by omega)
 refine Does.of Tryz.func9 rfl Tryz.ntmps9 rfl rfl fun F => ?_
 refine J.norm ?_
 refine Sr ?_
 refine Lq (Q_assign rfl) ?_
 refine Ln ?_
 refine J_seq ?_
 refine Sr ?_
 refine Lq (Q_move rfl) ?_
 refine Lq ((Q_peql rfl rfl).as (v' := .bool false) rfl) ?_
 refine Ln ?_
 refine J_condF rfl ?_
 refine J_skip ?_
 refine seqQ_normal ?_
 refine Sr ?_
 refine Lq (Q_move rfl) ?_
 refine Lq (Q_nilCheck rfl) ?_
 refine Lq (Q_fa0 rfl) ?_
 refine Lq (Q_ld 0 rfl rfl rfl rfl) ?_
 refine L_o rfl rfl rfl (O_call [1] [0,2] hc rfl rfl ?_)
 rintro _ _ ⟨T, rfl, rfl⟩
 refine JL.norm ?_
 refine Lq (Q_assign rfl) ?_
 refine Ln ?_
 refine J_ret ?_
 exact retQ_ret _ [chC p bg part Sl.v Y, slc tS true Sl log, slc tS true T log] (.cons (RV_tmp rfl) .nil) ⟨T, rfl, rfl⟩ (Ent.re [2,0,1,3] rfl)
end
end Go.Proofs
/- A deferred call: the walk behind it, and the call at the end. -/
set_option autoImplicit false
namespace Go.SL
/-- .. with calls that were deferred before. -/
def late (ds : List Deferred) (a : Act) : Act := { a with defers := a.defers ++ ds }
theorem late_eval (ds : List Deferred) (a : Act) : (late ds a).eval = a.eval := by funext x; cases x <;> rfl
theorem late_put (ds : List Deferred) (a : Act) (d : Option Tmp) (v : Value) : (late ds a).put d v = late ds (a.put d v) := by cases d <;> rfl
section
variable {P : Program} {ds : List Deferred}
theorem LetsOut.late {Q : Exit → Act → World → Prop} : LetsOut (fun e a w => Q e (late ds a) w) → LetsOut Q := fun ⟨a, w, h⟩ => ⟨SL.late ds a, w, h⟩
theorem LetsOut.of {Q Q' : Exit → Act → World → Prop} (hq : ∀ e a w, Q e a w → Q' e (SL.late ds a) w) : LetsOut Q → LetsOut Q' := fun ⟨a, w, h⟩ => ⟨SL.late ds a, w, hq _ _ _ h⟩
theorem upon_late {o : Oper} {a : Act} {next next' : Act → World → Prop} {Q Q' : Exit → Act → World → Prop} {r : Result Next} (hn : ∀ a w, next a w → next' (late ds a) w) (hq : ∀ e a w, Q e a w → Q' e (late ds a) w) (h : o.upon P a next Q r) : o.upon P (late ds a) next' Q' r := by
 cases r with
 | ok x w =>
  cases x with
  | value v => rw [Oper.upon_value] at h ⊢; rw [late_put]; exact hn _ _ h
  | skip => rw [Oper.upon_skip] at h ⊢; rw [late_put]; exact hn _ _ h
  | defer d =>
   rw [Oper.upon_defer] at h ⊢
   have e : ({ late ds a with defers := d :: (late ds a).defers } : Act).put o.dst undef = late ds (({ a with defers := d :: a.defers } : Act).put o.dst undef) := by rw [← late_put]; rfl
   rw [e]; exact hn _ _ h
  | enter f args =>
   rw [Oper.upon_enter] at h ⊢
   refine h.mono fun e w' he => ?_
   cases e with
   | returned v => simp only at he ⊢; rw [late_put]; exact hn _ _ he
   | panicked c => exact hq _ _ _ he
   | outgrown => exact LetsOut.of hq he
  | row row args =>
   rw [Oper.upon_row] at h ⊢
   refine h.mono fun v w' he => ?_
   rw [late_put]; exact hn _ _ he
  | _ => exact h
 | halt s w =>
  cases s with
  | panic v => rw [Oper.upon_panic] at h ⊢; exact hq _ _ _ h
  | _ => exact h
theorem wpOp_late {ops : Array Oper} {a : Act} {w : World} {K K' : Act → World → Prop} {Q Q' : Exit → Act → World → Prop} {i : Nat} (hn : ∀ a w, K a w → K' (late ds a) w) (hq : ∀ e a w, Q e a w → Q' e (late ds a) w) (h : wpOp P ops Q i K a w) : wpOp P ops Q' i K' (late ds a) w := by
 unfold wpOp at h ⊢
 split
 ·rename_i hi; rw [hi] at h; exact hn _ _ h
 ·rename_i o hi
  rw [hi] at h
  have ht : (late ds a).tmps = a.tmps := rfl
  rw [ht]
  dsimp only at h ⊢
  split
  ·rename_i hw
   rw [if_pos hw] at h
   rcases h with h | ⟨h1, h2⟩
   ·left
    unfold Oper.wp at h ⊢
    rw [late_eval]
    exact upon_late hn hq h
   ·right
    refine ⟨?_, LetsOut.of hq h2⟩
    unfold Oper.asks at h1 ⊢
    rw [late_eval]; exact h1
  ·rename_i hw
   rw [if_neg hw] at h
   rw [late_put]; exact hn _ _ h
theorem wpAny_late {md : Region.Mode} {ops : Array Oper} {Q Q' : Exit → Act → World → Prop} (hq : ∀ e a w, Q e a w → Q' e (late ds a) w) : ∀ (fuel : Nat) (listed : Array Bool) (a : Act) (w : World), wpAny P md ops Q fuel listed a w → wpAny P md ops Q' fuel listed (late ds a) w
 | 0, _, _, _, h => ⟨h.1, hq _ _ _ h.2⟩
 | fuel + 1, listed, a, w, h => ⟨fun h0 => hq _ _ _ (h.1 h0), fun i hi => wpOp_late (fun a' w' h' => wpAny_late hq fuel _ a' w' h') hq (h.2 i hi)⟩
end
section
variable {P : Program} {E : World} {n : Nat} {ρ : Env} {L H : List HProp}
/-- Code, whatever is asked behind it. -/
def JW (P : Program) (E : World) (n : Nat) (c : Code) (QW : Exit → Act → World → Prop) (ρ : Env) (L : List HProp) : Prop := ∀ a w, Agrees a n ρ → Sat E w L → c.wp P QW a w
/-- Code behind a deferred call. -/
def JWL (P : Program) (E : World) (n : Nat) (ds : List Deferred) (c : Code) (QW : Exit → Act → World → Prop) (ρ : Env) (L : List HProp) : Prop := ∀ a w, Agrees a n ρ → Sat E w L → c.wp P QW (late ds a) w
theorem JW_seq {c d : Code} {QW : Exit → Act → World → Prop} (h : J P E n c (fun e ρ' L' => e = .normal ∧ JW P E n d QW ρ' L') ρ L) : JW P E n (.seq c d) QW ρ L := fun a w ha hs =>
 wp_seq (wp_mono (h a w ha hs) fun e a' w' ⟨ρ', L', ⟨he, hQ⟩, ha', hs'⟩ => by subst he; exact hQ a' w' ha' hs')
theorem JW_defer {id g : Nat} {d : Code} {t ty ty2 : Nat} {p1 p2 : String} {e1 e2 : Array Edge} {ts : Array TypeId} {QW : Exit → Act → World → Prop} {ys : List Operand} {us : List Value} (hys : ρ.evs ys = some us) (ht : Nat.blt t n = true)
 (h : JWL P E n [⟨.fn (.func g) us.toArray, #[]⟩] d QW ((t, .func (.func g) #[] us.toArray) :: ρ) L) :
 JW P E n (.seq (.region id #[⟨some t, .makeFunc (.func g) #[] ys.toArray, ty, p1, e1, none⟩, ⟨none, .defer ⟨.value (.tmp t), #[], ts⟩, ty2, p2, e2, none⟩] false) d) QW ρ L := fun a w ha hs => by
 refine wp_seq (wp_region_lit (l := [_, _]) ?_)
 refine wpList_plain rfl fun K hK => ?_
 have hq := (Q_makeFunc (P := P) (E := E) (n := n) (L := L) (ρ := ρ) (dst := some t) (ty := ty) (pos := p1) (after := e1) (g := none) (fn := .func g) (xs := []) (ys := ys) (vs := []) (us := us) rfl hys) a w ha hs
 unfold Oper.wp
 rw [hq, Oper.upon_value]
 refine hK _ _ (wpList_plain rfl fun K hK => ?_)
 have ha' := ha.put (some t) (.func (.func g) #[] us.toArray) ht
 have hev : (a.put (some t) (.func (.func g) #[] us.toArray)).eval (.tmp t) = .func (.func g) #[] us.toArray := ha'.ev (x := .tmp t) (by simp [Env.ev, Env.put, Env.get])
 unfold Oper.wp
 have hd : (execOp (a.put (some t) (.func (.func g) #[] us.toArray)).eval ⟨none, .defer ⟨.value (.tmp t), #[], ts⟩, ty2, p2, e2, none⟩).run P w = .ok (.defer ⟨.fn (.func g) us.toArray, #[]⟩) w := by
  simp [execOp, resolve, hev, Deferred.ofValue]
 rw [hd, Oper.upon_defer]
 refine hK _ _ (wpList_nil ?_)
 have hdf := ha'.defers
 have key : ∀ (a1 : Act) (dd : Deferred), a1.defers = [] → ({ a1 with defers := dd :: a1.defers } : Act).put none undef = late [dd] a1 := fun a1 dd h1 => by
  cases a1
  simp only at h1
  subst h1
  rfl
 have e := key (a.put (some t) (.func (.func g) #[] us.toArray)) ⟨.fn (.func g) us.toArray, #[]⟩ hdf
 show d.wp P QW _ w
 rw [e]
 exact h _ w ha' hs
/-- The region that is last, behind a deferred call: the walk ends at 'ret'. -/
theorem JWL_draw {id : Nat} {l : List Oper} {ds : List Deferred} {QW : Exit → Act → World → Prop} (idx : List Nat) (quiet : List Nat) (sched : Sched) (hm : P.follows .mixedOrders = true)
 (hsel : Region.noSelect l.toArray = true) (ho : okSched l.toArray quiet l.toArray.size sched (Array.replicate l.toArray.size false) = true) (_ : ∀ c ρ' L', ¬ (Exit.panic c = .normal ∧ JWL P E n ds .ret QW ρ' L')) [NormL (pick idx L) H]
 (h : JS P E n l quiet (fun e ρ' L' => e = .normal ∧ JWL P E n ds .ret QW ρ' L') sched H ρ L) : JWL P E n ds (.seq (.region id l.toArray true) .ret) QW ρ L := fun a w ha hs => by
 have h1 := wpAny_of_G _ _ _ _ _ (JS.sound hsel (fun c ρ L h => by cases h.1) sched _ _ H ρ L a { w with drawn := w.drawn + 1 } ho Closed.start h ha (hs.drawn _))
 exact wp_seq (wp_region_any hm (wpAny_late (fun e a' w' ⟨ρ', L', ⟨he, hQ⟩, ha', hs'⟩ => by subst he; exact hQ a' w' ha' hs') _ _ _ _ h1))
/-- A deferred function: called when its caller leaves. -/
def DoesD (P : Program) (E : World) (f : Nat) (args : List Value) (pre : List HProp) (K : Value → List HProp → Prop) : Prop :=
 ∀ (F : HProp) (u : FrameMode) (w : World), Sat E w (pre ++ [F]) → CallsD P f args.toArray u w fun e u' w' => u' = u ∧ ∃ v L', e = .returned v ∧ K v L' ∧ Sat E w' (L' ++ [F])
theorem enter_agrees {n : Nat} {args : List Value} {m : Nat} (hn : m = n) (hl : args.length ≤ n) : Agrees { tmps := args.toArray ++ Array.replicate (m - args.toArray.size) undef, defers := [] } n (argEnv 0 args) := by
 refine ⟨rfl, by simp [hn]; omega, fun t v hv => ?_⟩
 obtain ⟨_, h2⟩ := argEnv_get args 0 t v hv
 have hlt := (List.getElem?_eq_some_iff.1 h2).1
 refine ⟨by omega, ?_⟩
 simp only [Nat.sub_zero] at h2 hlt
 rw [List.getElem?_eq_getElem hlt] at h2
 simp [Array.getD_eq_getD_getElem?, Array.getElem?_append, hlt]
 exact Option.some.inj h2
theorem DoesD.of {f : Nat} {fn : Func} {c : Code} {args : List Value} {pre : List HProp} {K : Value → List HProp → Prop} {rs : List ResultVar} (hf : P.funcs[f]? = some fn) (hb : fn.body = some c) (hn : fn.ntmps = n) (hr : fn.results = rs.toArray) (hl : Nat.ble args.length n = true)
 (h : ∀ F, J P E n c (retQ P E n rs K F) (argEnv 0 args) (pre ++ [F])) : DoesD P E f args pre K := fun F u w hs => by
 refine callsD_of_wp hf hb ?_
 refine wp_mono (h F _ w (enter_agrees hn (Nat.le_of_ble_eq_true hl)) hs) fun e a' w' ⟨ρ', L', hQ, ha', hs'⟩ => ?_
 cases e with
 | normal =>
  obtain ⟨vs, L'', h1, h2, h3⟩ := hQ
  exact ⟨ha'.defers, _, h1.run fn hr a' w' ha' hs', _, _, rfl, h2, h3 E w' hs'⟩
 | ret =>
  obtain ⟨vs, L'', h1, h2, h3⟩ := hQ
  exact ⟨ha'.defers, _, h1.run fn hr a' w' ha' hs', _, _, rfl, h2, h3 E w' hs'⟩
 | exit id => exact hQ.elim
 | goto l => exact hQ.elim
 | panic c => exact hQ.elim
 | outgrown => exact hQ.elim
/-- A function that defers a call. -/
theorem Does.deferred {f : Nat} {fn : Func} {c : Code} {args : List Value} {pre : List HProp} {K : Value → List HProp → Prop} (hf : P.funcs[f]? = some fn) (hb : fn.body = some c) (hn : fn.ntmps = n) (hl : Nat.ble args.length n = true)
 (h : ∀ F, JW P E n c (bodyPostD P fn fun e w' => ∃ v L', e = .returned v ∧ K v L' ∧ Sat E w' (L' ++ [F])) (argEnv 0 args) (pre ++ [F])) : Does P E f args pre K := fun F w hs =>
 calls_of_wp_defers hf hb (h F _ w (enter_agrees hn (Nat.le_of_ble_eq_true hl)) hs)
theorem JWL_ret {fn : Func} {g : Nat} {us : List Value} {rs : List ResultVar} {pre R : List HProp} {F : HProp} {K K' : Value → List HProp → Prop} (idx ridx : List Nat) [hf : HasFn P g] (hr : fn.results = rs.toArray) (hg : DoesD P E g us pre K')
 (hi : okIdx L.length (idx ++ ridx) = true) [hp : NormL (pick idx L) pre] [hR : NormL (pick ridx L) R]
 (hk : ∀ v1 L1, K' v1 L1 → ∃ vs L'', RVs P E n ρ (L1 ++ R) rs vs ∧ K (oneOf vs) L'' ∧ Ent (L1 ++ R) (L'' ++ [F])) :
 JWL P E n [⟨.fn (.func g) us.toArray, #[]⟩] .ret (bodyPostD P fn fun e w' => ∃ v L', e = .returned v ∧ K v L' ∧ Sat E w' (L' ++ [F])) ρ L := fun a w ha hs => by
 have h1 : Sat E w (pre ++ R) := by
  rw [← hp.h, ← hR.h]
  have := hs.pick _ hi
  rw [SL.pick, List.map_append] at this
  exact this
 refine wp_ret ?_
 have e : (late [⟨.fn (.func g) us.toArray, #[]⟩] a).defers = [⟨.fn (.func g) us.toArray, #[]⟩] := by simp [late, ha.defers]
 show Leaves P fn (late [⟨.fn (.func g) us.toArray, #[]⟩] a).tmps _ (late [⟨.fn (.func g) us.toArray, #[]⟩] a).defers .returning w
 rw [e]
 refine leaves_cons (by simp) (by simp only [invoke, Array.empty_append]; exact run_callFunc hf _ _) ((hg (stars R) .returning w h1.fold).mono ?_)
 rintro e u' w' ⟨rfl, v1, L1, rfl, hK, hs'⟩
 obtain ⟨vs, L'', h2, h3, h4⟩ := hk v1 L1 hK
 have hs2 := hs'.unfold
 exact ⟨_, h2.run fn hr a w' ha hs2, _, _, rfl, h3, h4 E w' hs2⟩
theorem RV_cell1 {x t b tb : Nat} {v : Value} {cs : List Value} {d : TypeDesc} (i : Nat) [u : TyU P t d] (h : ρ.get x = some (.pointer (some ⟨b, 0, none⟩))) (hi : L[i]? = some (cel b cs tb)) (hd : isAggD d = false) (hv : cs[0]? = some v) :
 RV P E n (.cell x t) ρ L v := fun a w ha hs => by
 have h1 := hs.cel_cell hi 0 v hv
 simp [rvSem, (ha.get x _ h).2, asAddr, loadVar, run_isAgg u.h, hd, h1]
theorem JW.norm {c : Code} {QW : Exit → Act → World → Prop} {L' : List HProp} [g : NormL L L'] (h : JW P E n c QW ρ L') : JW P E n c QW ρ L := by rw [g.h]; exact h
end
end Go.SL
