/- Part 21 of the texts below the row: Fo3, Fo4, Ref37a, Ref37h, Pack, Kv6, Packr, UnpP, Unpack, Ref37c, Ref37d, Ref37e, Ref37f, Snap6, Ref37g, LastP, Kv7, Kv8, Kv9. -/
import Derived.Test.YtgifbeecmidciaaGreatM20
/- One who follows: made, told, asked for its log. -/
set_option autoImplicit false
namespace Go.Proofs
open Go.SL Go.Proofs.Bt
theorem Ent.blank {L : List HProp} : ∀ n : Nat, Ent L (stars ((List.range n).map fun _ => mapC ⟨none, [], false⟩) :: L)
 | 0 => Ent.stars_nil
 | n + 1 => by
  rw [List.range_succ]
  refine (Ent.blank n).trans (Ent.trans ?_ (Ent.last_in (fun _ => mapC ⟨none, [], false⟩) (List.range n) n))
  exact Ent.stars_nil
abbrev folC (p : Nat) (t : Int) (hd : Nat → Bool) (tl : Nat → Hg) : HProp := cel p (foL t hd tl) 78
def folM (tl : Nat → Hg) : HProp := stars ((List.range 64).map fun h => mapC (tl h))
theorem range_at {h : Nat} (hh : h < 64) : List.range 64 = List.range h ++ h :: (List.range (63 - h)).map (· + (h + 1)) := by
 apply List.ext_getElem?
 intro i
 by_cases h1 : i < h
 ·rw [List.getElem?_append_left (by simpa using h1), List.getElem?_range (by omega), List.getElem?_range h1]
 ·rw [List.getElem?_append_right (by simp; omega)]
  simp only [List.length_range]
  by_cases h2 : i = h
  ·subst h2
   simp [hh]
  ·obtain ⟨j, hj⟩ : ∃ j, i - h = j + 1 := ⟨i - h - 1, by omega⟩
   rw [hj, List.getElem?_cons_succ]
   by_cases h3 : i < 64
   ·rw [List.getElem?_range h3, List.getElem?_map, List.getElem?_range (by omega)]
    simp; omega
   ·rw [List.getElem?_eq_none (by simp; omega), List.getElem?_eq_none (by simp; omega)]
theorem map_upd (tl : Nat → Hg) (h : Nat) (g : Hg) (l : List Nat) (hl : h ∉ l) : (l.map fun i => mapC (updG tl h g i)) = l.map fun i => mapC (tl i) := by
 apply List.map_congr_left
 intro i hi
 have : i ≠ h := fun e => hl (e ▸ hi)
 simp [updG, this]
theorem Ent.mapOut {tl : Nat → Hg} {h : Nat} (hh : h < 64) : ∃ R : HProp, (∀ L, Ent (folM tl :: L) (mapC (tl h) :: R :: L)) ∧ ∀ (g : Hg) (L : List HProp), Ent (mapC g :: R :: L) (folM (updG tl h g) :: L) := by
 refine ⟨stars ((List.range h ++ (List.range (63 - h)).map (· + (h + 1))).map fun i => mapC (tl i)), fun L => ?_, fun g L => ?_⟩
 ·unfold folM
  rw [range_at hh]
  exact Ent.mid_out (fun i => mapC (tl i)) (List.range h) h _
 ·unfold folM
  rw [range_at hh]
  have h1 := Ent.mid_in (L := L) (fun i => mapC (updG tl h g i)) (List.range h) h ((List.range (63 - h)).map (· + (h + 1)))
  rw [map_upd tl h g _ (by simp; omega)] at h1
  simp only [updG_at] at h1
  exact h1
attribute [local irreducible] J JL QOp JOp seqQ blockQ loopQ retQ slc cel hex star pur stars Does RV Ent pAt scopeQ
attribute [local irreducible] foL folM mapC bz78 fol0
theorem fnew_ok (E : World) (t : Int) : Does Tryz.prog E 10 [.int .i64 t] [] fun r L => ∃ p : Nat, r = .pointer (some ⟨p, 0, none⟩) ∧ L = [folC p (min (max t 0) 2) (fun _ => false) (fun _ => ⟨none, [], false⟩), folM fun _ => ⟨none, [], false⟩] := by
 have hf := fol_fill (min (max t 0) 2)
 refine Does.of Tryz.func10 rfl Tryz.ntmps10 rfl rfl fun F => ?_
 refine J.norm ?_
 refine Sr ?_
 refine Lq (Q_assign rfl) ?_
 refine Ln ?_
 refine Sr ?_
 refine Lq (Q_move rfl) ?_
 refine Lq (Q_max2 rfl rfl) ?_
 refine Lq (Q_min2 rfl rfl) ?_
 refine Lq (Q_build (hc := hf) rfl) ?_
 refine L_o rfl rfl rfl (O_box rfl fun b7 => ?_)
 refine Lq (Q_assign rfl) ?_
 refine Ln ?_
 refine J_ret ?_
 refine retQ_ret _ [folC b7 (min (max t 0) 2) (fun _ => false) (fun _ => ⟨none, [], false⟩), folM fun _ => ⟨none, [], false⟩] (.cons (RV_tmp rfl) .nil) ⟨b7, rfl, rfl⟩ ?_
 refine (Ent.blank 64).trans ?_
 unfold folM fol0
 exact Ent.re [1,0,2] rfl
theorem fheight_ok (E : World) (p : Nat) (h : Int) : Does Tryz.prog E 33 [.pointer (some ⟨p, 0, none⟩), .int .i64 h] [] fun r L => r = .bool (decide (0 ≤ h ∧ h < 64)) ∧ L = [] := by
 refine Does.of Tryz.func33 rfl Tryz.ntmps33 rfl rfl fun F => ?_
 refine J.norm ?_
 refine Sr ?_
 refine Lq (Q_assign rfl) ?_
 refine Ln ?_
 refine J_seq ?_
 by_cases h0 : 0 ≤ h
 ·by_cases h1 : h < 64
  ·skip
   refine J_region ?_
   refine Lq (Q_move rfl) ?_
   refine Lq ((Q_pneq rfl rfl).as (v' := .bool true) rfl) ?_
   refine Lq (Q_move rfl) ?_
   refine Lq (Q_move rfl) ?_
   refine Lq ((Q_geq rfl rfl).as (v' := .bool true) (congrArg Value.bool (decide_eq_true h0))) ?_
   refine Lq (Q_pickT rfl rfl) ?_
   refine Lq (Q_move rfl) ?_
   refine Lq (Q_move rfl) ?_
   refine Lq ((Q_lss rfl rfl).as (v' := .bool true) (congrArg Value.bool (decide_eq_true h1))) ?_
   refine Lq (Q_pickT rfl rfl) ?_
   refine Lq (Q_assign rfl) ?_
   refine Ln ?_
   refine J_ret ?_
   exact retQ_ret _ [] (.cons (RV_tmp rfl) .nil) ⟨by simp [h0, h1, oneOf], rfl⟩ (Ent.refl _)
  ·skip
   refine J_region ?_
   refine Lq (Q_move rfl) ?_
   refine Lq ((Q_pneq rfl rfl).as (v' := .bool true) rfl) ?_
   refine Lq (Q_move rfl) ?_
   refine Lq (Q_move rfl) ?_
   refine Lq ((Q_geq rfl rfl).as (v' := .bool true) (congrArg Value.bool (decide_eq_true h0))) ?_
   refine Lq (Q_pickT rfl rfl) ?_
   refine Lq (Q_move rfl) ?_
   refine Lq (Q_move rfl) ?_
   refine Lq ((Q_lss rfl rfl).as (v' := .bool false) (congrArg Value.bool (decide_eq_false h1))) ?_
   refine Lq (Q_pickT rfl rfl) ?_
   refine Lq (Q_assign rfl) ?_
   refine Ln ?_
   refine J_ret ?_
   exact retQ_ret _ [] (.cons (RV_tmp rfl) .nil) ⟨by simp [h0, h1, oneOf], rfl⟩ (Ent.refl _)
 ·skip
  refine J_region ?_
  refine Lq (Q_move rfl) ?_
  refine Lq ((Q_pneq rfl rfl).as (v' := .bool true) rfl) ?_
  refine Lq (Q_move rfl) ?_
  refine Lq (Q_move rfl) ?_
  refine Lq ((Q_geq rfl rfl).as (v' := .bool false) (congrArg Value.bool (decide_eq_false h0))) ?_
  refine Lq (Q_pickT rfl rfl) ?_
  refine Lq (Q_move rfl) ?_
  refine L_n rfl rfl rfl ?_
  refine L_n rfl rfl rfl ?_
  refine Lq (Q_pickF rfl rfl) ?_
  refine Lq (Q_assign rfl) ?_
  refine Ln ?_
  refine J_ret ?_
  exact retQ_ret _ [] (.cons (RV_tmp rfl) .nil) ⟨by simp [h0, oneOf], rfl⟩ (Ent.refl _)
theorem ftold_ok (E : World) (p h : Nat) (t : Int) (hd : Nat → Bool) (tl : Nat → Hg) (hh : h ≤ 64) : Does Tryz.prog E 35 [.pointer (some ⟨p, 0, none⟩), .int .i64 (h : Int)] [folC p t hd tl] fun r L => r = .tuple #[str (if h < 64 then (tl h).first else []), .bool (decide (h < 64) && (tl h).told)] ∧ L = [folC p t hd tl] := by
 have hhe := fheight_ok E p (h : Int)
 by_cases hl : h < 64
 ·rw [show decide ((0 : Int) ≤ (h : Int) ∧ (h : Int) < 64) = true by apply decide_eq_true; omega] at hhe
  rw [if_pos hl, show (decide (h < 64) && (tl h).told) = (tl h).told by simp [hl]]
  refine Does.of Tryz.func35 rfl Tryz.ntmps35 rfl rfl fun F => ?_
  refine J.norm ?_
  refine Sr ?_
  refine Lq (Q_assign rfl) ?_
  refine Lq (Q_assign rfl) ?_
  refine Ln ?_
  refine J_seq ?_
  refine Sr ?_
  refine Lq (Q_move rfl) ?_
  refine Lq (Q_move rfl) ?_
  refine L_o rfl rfl rfl (O_call [] [0,1] hhe rfl rfl ?_)
  rintro _ _ ⟨rfl, rfl⟩
  refine JL.norm ?_
  refine Lq ((Q_not rfl).as (v' := .bool false) rfl) ?_
  refine Ln ?_
  refine J_condF rfl ?_
  refine J_skip ?_
  refine seqQ_normal ?_
  refine Sr ?_
  refine Lq (Q_move rfl) ?_
  refine Lq (Q_move rfl) ?_
  refine Lq (Q_nilCheck rfl) ?_
  refine Lq (Q_fa0 rfl) ?_
  refine Lq (Q_ia (o' := 513 + 3 * h) h rfl rfl rfl hl (by omega)) ?_
  refine Lq (Q_assign rfl) ?_
  refine Ln ?_
  refine J_seq ?_
  refine DL [0,1,2,3,4,5,6,7,8,9] (.quiet 0 (.quiet 1 (.quiet 2 (.quiet 3 (.quiet 4 (.quiet 5 (.quiet 6 (.quiet 7 (.quiet 8 (.quiet 9 .done)))))))))) Tryz.mixed ?_
  refine Sq (Ent.refl _) rfl (Q_move rfl) ?_
  refine Sq (Ent.refl _) rfl (Q_nilCheck rfl) ?_
  refine Sq (Ent.refl _) rfl (Q_fa rfl rfl) ?_
  refine Sq (Ent.refl _) rfl (Q_ld 0 rfl rfl rfl ((fo_tl t hd tl h 1 hl (by decide)).trans rfl)) ?_
  refine Sq (Ent.refl _) rfl (Q_move rfl) ?_
  refine Sq (Ent.refl _) rfl (Q_nilCheck rfl) ?_
  refine Sq (Ent.refl _) rfl (Q_fa rfl rfl) ?_
  refine Sq (Ent.refl _) rfl (Q_ld 0 rfl rfl rfl ((fo_tl t hd tl h 2 hl (by decide)).trans rfl)) ?_
  refine Sq (Ent.refl _) rfl (Q_assign rfl) ?_
  refine Sq (Ent.refl _) rfl (Q_assign rfl) ?_
  refine S_nil ?_
  refine seqQ_normal ?_
  refine J_ret ?_
  exact retQ_ret _ [folC p t hd tl] (.cons (RV_tmp rfl) (.cons (RV_tmp rfl) .nil)) ⟨rfl, rfl⟩ (Ent.refl _)
 ·rw [show decide ((0 : Int) ≤ (h : Int) ∧ (h : Int) < 64) = false by apply decide_eq_false; omega] at hhe
  rw [if_neg hl, show (decide (h < 64) && (tl h).told) = false by simp [hl]]
  refine Does.of Tryz.func35 rfl Tryz.ntmps35 rfl rfl fun F => ?_
  refine J.norm ?_
  refine Sr ?_
  refine Lq (Q_assign rfl) ?_
  refine Lq (Q_assign rfl) ?_
  refine Ln ?_
  refine J_seq ?_
  refine Sr ?_
  refine Lq (Q_move rfl) ?_
  refine Lq (Q_move rfl) ?_
  refine L_o rfl rfl rfl (O_call [] [0,1] hhe rfl rfl ?_)
  rintro _ _ ⟨rfl, rfl⟩
  refine JL.norm ?_
  refine Lq ((Q_not rfl).as (v' := .bool true) rfl) ?_
  refine Ln ?_
  refine J_condT rfl ?_
  refine Sr ?_
  refine Lq (Q_assign rfl) ?_
  refine Lq (Q_assign rfl) ?_
  refine Ln ?_
  refine J_ret ?_
  refine seqQ_ret ?_
  exact retQ_ret _ [folC p t hd tl] (.cons (RV_tmp rfl) (.cons (RV_tmp rfl) .nil)) ⟨rfl, rfl⟩ (Ent.refl _)
theorem flog_ok (E : World) (p : Nat) (t : Int) (hd : Nat → Bool) (tl : Nat → Hg) : Does Tryz.prog E 12 [.pointer (some ⟨p, 0, none⟩)] [folC p t hd tl] fun r L => ∃ (k : Nat) (S : SV), k ≤ 64 ∧ (∀ h, h < k → (tl h).told = true) ∧ (k = 64 ∨ (tl k).told = false) ∧ r = S.v ∧ L = [folC p t hd tl, slc tS true S ((List.range k).map fun h => (tl h).first)] := by
 refine Does.of Tryz.func12 rfl Tryz.ntmps12 rfl rfl fun F => ?_
 refine J.norm ?_
 refine Sr ?_
 refine Lq (Q_assign rfl) ?_
 refine Ln ?_
 refine Sr ?_
 refine Lq (Q_assign rfl) ?_
 refine Ln ?_
 refine J_block ?_
 refine J.ent (Ent.mk fun _ _ h => (h.lay_nil tS true : Sat _ _ (slc tS true SV.nil [] :: _))) ?_
 refine J_loop (fun i : Nat × SV => i.1 ≤ 64 ∧ ∀ h, h < i.1 → (tl h).told = true) (fun i => [(0, .pointer (some ⟨p, 0, none⟩)), (3, i.2.v)]) (fun i => [slc tS true i.2 ((List.range i.1).map fun h => (tl h).first), folC p t hd tl, F]) (fun i => 64 - i.1) (0, SV.nil) ⟨by decide, fun h hh => by omega⟩ ⟨rfl, rfl, trivial⟩ (Ent.refl _) ?_
 rintro ⟨k, S⟩ ⟨hk, hall⟩
 dsimp only at hk hall ⊢
 have hto := ftold_ok E p k t hd tl hk
 have hln : ((List.range k).map fun h => (tl h).first).length = k := by simp
 by_cases hc : k < 64 ∧ (tl k).told = true
 ·obtain ⟨h1, h2⟩ := hc
  rw [if_pos h1, h2, show (decide (k < 64) && true) = true by simp [h1]] at hto
  have hst : (List.range (k + 1)).map (fun h => (tl h).first) = (List.range k).map (fun h => (tl h).first) ++ [(tl k).first] := by rw [List.range_succ, List.map_append]; rfl
  refine J_block ?_
  refine Sr ?_
  refine Lq (Q_move rfl) ?_
  refine Lq (Q_move rfl) ?_
  refine Lq ((Q_lenAt 0 rfl rfl).as (v' := .int .i64 (k : Int)) (by rw [hln])) ?_
  refine L_o rfl rfl rfl (O_call [1] [0,2] hto rfl rfl ?_)
  rintro _ _ ⟨rfl, rfl⟩
  refine JL.norm ?_
  refine Lq (Q_move rfl) ?_
  refine Lq (Q_extract (v := str (tl k).first) rfl rfl) ?_
  refine Lq (Q_extract (v := .bool true) rfl rfl) ?_
  refine Lq (Q_assign rfl) ?_
  refine Lq (Q_assign rfl) ?_
  refine Ln ?_
  refine J_seq ?_
  refine Sr ?_
  refine Lq (Q_move rfl) ?_
  refine Lq ((Q_not rfl).as (v' := .bool false) rfl) ?_
  refine Ln ?_
  refine J_condF rfl ?_
  refine J_skip ?_
  refine seqQ_normal ?_
  refine J_region ?_
  refine Lq (Q_move rfl) ?_
  refine Lq (Q_move rfl) ?_
  refine L_o rfl rfl rfl (O_litP (τ := tS) (m := 1) (sz := 1) [(tl k).first] rfl rfl rfl rfl rfl rfl (by decide) (fun U => ?_))
  refine JL.norm ?_
  refine L_o rfl rfl rfl (O_app (τ := tS) 2 rfl (fun w h => h.rd 0 rfl) rfl rfl rfl rfl (by rw [hln, List.length_singleton]; omega) (by decide) (fun S2 => ?_))
  refine JL.norm ?_
  refine Lq (Q_assign rfl) ?_
  refine JL_nil ?_
  refine blockQ_normal ?_
  refine loopQ_normal (k + 1, S2) ⟨h1, ?_⟩ (by show 64 - (k + 1) < 64 - k; omega) ⟨rfl, rfl, trivial⟩ (by dsimp only; rw [hst]; exact Ent.re [2,1,3] rfl)
  intro h hh
  by_cases e : h = k
  ·rw [e]; exact h2
  ·exact hall h (by show h < k; have : h < k + 1 := hh; omega)
 ·have hfin : k = 64 ∨ (tl k).told = false := by
   by_cases h1 : k < 64
   ·right
    cases h2 : (tl k).told with
    | false => rfl
    | true => exact absurd ⟨h1, h2⟩ hc
   ·left; omega
  have hb : (decide (k < 64) && (tl k).told) = false := by
   rcases hfin with rfl | h2
   ·rfl
   ·rw [h2]; simp
  rw [hb] at hto
  refine J_block ?_
  refine Sr ?_
  refine Lq (Q_move rfl) ?_
  refine Lq (Q_move rfl) ?_
  refine Lq ((Q_lenAt 0 rfl rfl).as (v' := .int .i64 (k : Int)) (by rw [hln])) ?_
  refine L_o rfl rfl rfl (O_call [1] [0,2] hto rfl rfl ?_)
  rintro _ _ ⟨rfl, rfl⟩
  refine JL.norm ?_
  refine Lq (Q_move rfl) ?_
  refine Lq (Q_extract (v := str (if k < 64 then (tl k).first else [])) rfl rfl) ?_
  refine Lq (Q_extract (v := .bool false) rfl rfl) ?_
  refine Lq (Q_assign rfl) ?_
  refine Lq (Q_assign rfl) ?_
  refine Ln ?_
  refine J_seq ?_
  refine Sr ?_
  refine Lq (Q_move rfl) ?_
  refine Lq ((Q_not rfl).as (v' := .bool true) rfl) ?_
  refine Ln ?_
  refine J_condT rfl ?_
  refine Sr ?_
  refine Lq (Q_move rfl) ?_
  refine Lq (Q_assign rfl) ?_
  refine Ln ?_
  refine J_ret ?_
  refine seqQ_ret ?_
  refine blockQ_ret ?_
  refine loopQ_ret ?_
  refine blockQ_ret ?_
  exact retQ_ret _ [folC p t hd tl, slc tS true S ((List.range k).map fun h => (tl h).first)] (.cons (RV_tmp rfl) .nil) ⟨k, S, hk, hall, hfin, rfl, rfl⟩ (Ent.re [0,1,2] rfl)
end Go.Proofs
/- One who follows: an answer put. -/
set_option autoImplicit false
namespace Go.Proofs
open Go.SL Go.Proofs.Bt
/-- Does an answer count? -/
structure OkF (hd : Nat → Bool) (f h : Nat) (v : Ky) : Prop where
 lh : h < 64
 lf : 1 ≤ f ∧ f ≤ 7
 lv : v ≠ [] ∧ v.length ≤ 4096
 new : hd (h * 8 + f) = false
attribute [local irreducible] J JL QOp JOp seqQ blockQ loopQ retQ slc cel hex star pur stars Does RV Ent pAt scopeQ
attribute [local irreducible] foL folM mapC bz78 fol0
theorem fputT_ok (E : World) (p f h : Nat) (t : Int) (hd : Nat → Bool) (tl : Nat → Hg) (v : Ky) (hok : OkF hd f h v) (ht : 0 ≤ t ∧ t ≤ 2) (hc : 0 ≤ cntG (tl h) v ∧ cntG (tl h) v ≤ 1000000) : Does Tryz.prog E 11 [.pointer (some ⟨p, 0, none⟩), .int .i64 (f : Int), .int .i64 (h : Int), str v] [folC p t hd tl, folM tl] fun r L => ∃ m : Nat, r = .bool true ∧ L = [folC p t (updB hd (h * 8 + f)) (updG tl h (addG (tl h) m v (t + 1))), folM (updG tl h (addG (tl h) m v (t + 1)))] := by
 obtain ⟨hh, ⟨hf1, hf2⟩, ⟨hv1, hv2⟩, hnew⟩ := hok
 have hhe := fheight_ok E p (h : Int)
 rw [show decide ((0 : Int) ≤ (h : Int) ∧ (h : Int) < 64) = true by apply decide_eq_true; omega] at hhe
 have hadd := fadd_ok E p h t (updB hd (h * 8 + f)) tl v (t + 1) hh hc
 have hload := fo_hd t hd tl (h * 8 + f) (by omega)
 rw [hnew] at hload
 refine Does.of Tryz.func11 rfl Tryz.ntmps11 rfl rfl fun F => ?_
 refine J.norm ?_
 refine Sr ?_
 refine Lq (Q_assign rfl) ?_
 refine Ln ?_
 refine J_seq ?_
 refine Sr ?_
 refine Lq (Q_move rfl) ?_
 refine Lq (Q_move rfl) ?_
 refine L_o rfl rfl rfl (O_call [] [0,1,2] hhe rfl rfl ?_)
 rintro _ _ ⟨rfl, rfl⟩
 refine JL.norm ?_
 refine Lq ((Q_not rfl).as (v' := .bool false) rfl) ?_
 refine Lq (Q_move rfl) ?_
 refine Lq (Q_move rfl) ?_
 refine Lq ((Q_lss rfl rfl).as (v' := .bool false) (congrArg Value.bool (decide_eq_false (by omega)))) ?_
 refine Lq (Q_pickF rfl rfl) ?_
 refine Lq (Q_move rfl) ?_
 refine Lq (Q_move rfl) ?_
 refine Lq ((Q_gtr rfl rfl).as (v' := .bool false) (congrArg Value.bool (decide_eq_false (by omega)))) ?_
 refine Lq (Q_pickF rfl rfl) ?_
 refine Lq (Q_move rfl) ?_
 refine Lq (Q_move rfl) ?_
 refine Lq ((Q_seql rfl rfl).as (v' := .bool false) (congrArg Value.bool (decide_eq_false hv1))) ?_
 refine Lq (Q_pickF rfl rfl) ?_
 refine Lq (Q_move rfl) ?_
 refine Lq (Q_move rfl) ?_
 refine Lq (Q_slen rfl) ?_
 refine Lq ((Q_gtr rfl rfl).as (v' := .bool false) (congrArg Value.bool (decide_eq_false (by omega)))) ?_
 refine Lq (Q_pickF rfl rfl) ?_
 refine Lq (Q_move rfl) ?_
 refine Lq (Q_move rfl) ?_
 refine Lq (Q_move rfl) ?_
 refine Lq (Q_move rfl) ?_
 refine Lq (Q_nilCheck rfl) ?_
 refine Lq (Q_fa0 rfl) ?_
 refine Lq (Q_ia (o' := 1 + h * 8) h rfl rfl rfl hh rfl) ?_
 refine Lq (Q_ia (o' := 1 + (h * 8 + f)) f rfl rfl rfl (by omega) (by omega)) ?_
 refine Lq (Q_ld 0 rfl rfl rfl hload) ?_
 refine Lq (Q_pickF rfl rfl) ?_
 refine Ln ?_
 refine J_condF rfl ?_
 refine J_skip ?_
 refine seqQ_normal ?_
 refine Sr ?_
 refine Lq (Q_move rfl) ?_
 refine Lq (Q_move rfl) ?_
 refine Lq (Q_move rfl) ?_
 refine Lq (Q_nilCheck rfl) ?_
 refine Lq (Q_fa0 rfl) ?_
 refine Lq (Q_ia (o' := 1 + h * 8) h rfl rfl rfl hh rfl) ?_
 refine Lq (Q_ia (o' := 1 + (h * 8 + f)) f rfl rfl rfl (by omega) (by omega)) ?_
 refine L_s rfl rfl (O_st1 0 rfl rfl rfl rfl rfl (hcs := ⟨fo_setHd t hd tl (h * 8 + f) (by omega), by rw [fo_len]; omega⟩) ?_)
 refine JL.norm ?_
 refine Ln ?_
 refine J_seq ?_
 obtain ⟨R, e1, e2⟩ := Ent.mapOut (tl := tl) (h := h) hh
 refine J.ent ((Ent.re [1,0,2] rfl).trans ((e1 [folC p t (updB hd (h * 8 + f)) tl, F]).trans (Ent.re [2,0,1,3] rfl))) ?_
 refine DH [0] [0,1,2,3,4,5,6,7,8,9,10] (.quiet 0 (.quiet 1 (.quiet 2 (.quiet 3 (.quiet 4 (.quiet 5 (.quiet 6 (.quiet 7 (.quiet 8 (.quiet 9 (.quiet 10 (.loud 11 .done)))))))))))) Tryz.mixed ?_
 refine Sq (Ent.re [0] rfl) rfl (Q_move rfl) ?_
 refine Sq (Ent.re [0] rfl) rfl (Q_move rfl) ?_
 refine Sq (Ent.re [0] rfl) rfl (Q_nilCheck rfl) ?_
 refine Sq (Ent.re [0] rfl) rfl (Q_fa0 rfl) ?_
 refine Sq (Ent.re [0] rfl) rfl (Q_ia (o' := 513 + 3 * h) h rfl rfl rfl hh (by omega)) ?_
 refine Sq (Ent.re [0] rfl) rfl (Q_move rfl) ?_
 refine Sq (Ent.re [0] rfl) rfl (Q_move rfl) ?_
 refine Sq (Ent.re [0] rfl) rfl (Q_nilCheck rfl) ?_
 refine Sq (Ent.re [0] rfl) rfl (Q_fa0 rfl) ?_
 refine Sq (Ent.re [0] rfl) rfl (Q_ld 0 rfl rfl rfl (fo_0 t (updB hd (h * 8 + f)) tl)) ?_
 refine Sq (Ent.re [0] rfl) rfl (Q_add (r := t + 1) rfl rfl (IntWalk.i64_in _ (by omega))) ?_
 refine S_o rfl rfl rfl rfl (O_call [0,1] [2,3] hadd rfl rfl ?_)
 (rintro _ _ ⟨m, rfl, rfl⟩; refine ⟨[], free_no (by kernel_rfl), ?_⟩)
 refine JS.norm ?_
 refine S_nil ?_
 refine seqQ_normal ?_
 refine Sr ?_
 refine Lq (Q_assign rfl) ?_
 refine Ln ?_
 refine J_ret ?_
 refine retQ_ret _ [folC p t (updB hd (h * 8 + f)) (updG tl h (addG (tl h) m v (t + 1))), folM (updG tl h (addG (tl h) m v (t + 1)))] (.cons (RV_tmp rfl) .nil) ⟨m, rfl, rfl⟩ ?_
 exact (Ent.re [1,2,0,3] rfl).trans ((e2 (addG (tl h) m v (t + 1)) [folC p t (updB hd (h * 8 + f)) (updG tl h (addG (tl h) m v (t + 1))), F]).trans (Ent.re [1,0,2] rfl))
end Go.Proofs
/- The document's numbers, sums and texts, walked. -/
set_option autoImplicit false
namespace Go.Proofs
open Go.SL
attribute [local irreducible] J JL QOp JOp seqQ blockQ loopQ retQ slc cel hex star pur stars Does RV Ent pAt
end Go.Proofs
/- The document's reading of texts. -/
set_option autoImplicit false
namespace Go.Proofs
open Go.SL
attribute [local irreducible] J JL QOp JOp seqQ blockQ loopQ retQ slc cel hex star pur stars Does RV Ent pAt
end Go.Proofs
/- Pairs packed, walked. -/
set_option autoImplicit false
namespace Go.Proofs
open Go.SL
attribute [local irreducible] J JL QOp JOp seqQ blockQ loopQ retQ slc cel hex star pur stars Does RV Ent pAt
abbrev Pr := List UInt8 × List UInt8
def tP : Ty Pr := ⟨111, 2, fun p => [str p.1, str p.2], fun _ => rfl, by decide, fun a v hv => by simp at hv; rcases hv with rfl | rfl <;> rfl⟩
instance : TyI Tryz.prog tP.e 2 (.agg #[.string ⟨#[]⟩, .string ⟨#[]⟩]) 32 := inferInstanceAs (TyI Tryz.prog 111 2 (.agg #[.string ⟨#[]⟩, .string ⟨#[]⟩]) 32)
instance : TyU Tryz.prog 54 (.slice tP.e) := inferInstanceAs (TyU Tryz.prog 54 (.slice 111))
def flat (l : List Pr) : List (List UInt8) := l.flatMap fun p => [p.1, p.2]
theorem flat_succ (l : List Pr) (k : Nat) (h : k < l.length) : flat (l.take (k + 1)) = flat (l.take k) ++ [l[k].1, l[k].2] := by
 unfold flat
 rw [List.take_succ_eq_append_getElem h, List.flatMap_append]
 simp
theorem flat_length (l : List Pr) : (flat l).length = 2 * l.length := by
 induction l with
 | nil => rfl
 | cons p l ih => simp only [flat, List.flatMap_cons, List.length_append, List.length_cons, List.length_nil] at *; omega
theorem pack_ok (E : World) (full : Bool) (S : SV) (l : List Pr) (hl : l.length ≤ 100000) (hb : (texts (flat l)).length ≤ 100000000) : Does Tryz.prog E 47 [S.v] [slc tP full S l] fun v L => v = str (texts (flat l)) ∧ L = [slc tP full S l] := by
 refine Does.of Tryz.func47 rfl Tryz.ntmps47 rfl rfl fun F => ?_
 refine J.norm ?_
 refine Sr ?_
 refine Lq (Q_assign rfl) ?_
 refine Ln ?_
 refine Sr ?_
 refine Lq (Q_assign rfl) ?_
 refine Ln ?_
 refine J_seq ?_
 refine Sr ?_
 refine Lq (Q_move rfl) ?_
 refine Lq (Q_lenAt 0 rfl rfl) ?_
 refine Lq (Q_move rfl) ?_
 refine Ln ?_
 refine J_block ?_
 refine J.ent (Ent.mk fun _ _ h => (h.lay_nil tS true : Sat _ _ (slc tS true SV.nil [] :: _))) ?_
 refine J_loop (fun i : Nat × SV => i.1 ≤ l.length) (fun i => [(3, i.2.v), (6, S.v), (7, .int .i64 (l.length : Int)), (8, .int .i64 (i.1 : Int))])
  (fun i => [slc tS true i.2 (flat (l.take i.1)), slc tP full S l, F]) (fun i => l.length - i.1) (0, SV.nil) (by simp) ⟨rfl, rfl, rfl, rfl, trivial⟩ (Ent.refl _) ?_
 rintro ⟨k, B⟩ hk
 dsimp only at hk ⊢
 refine Sr ?_
 refine Lq (Q_lss rfl rfl) ?_
 refine Ln ?_
 refine J_seq ?_
 refine J_condD rfl (fun h => ?_) (fun h => ?_)
 ·have hlt : k < l.length := by omega
  have h1 := flat_succ l k hlt
  have h2 : (flat (l.take k)).length = 2 * k := by rw [flat_length, List.length_take]; omega
  refine J_skip ?_
  refine seqQ_normal ?_
  refine J_seq ?_
  refine J_block ?_
  refine Sr ?_
  refine Lq (Q_ixAt 1 k rfl rfl rfl rfl hlt rfl) ?_
  refine Lq (Q_ldEAAt 1 k 0 (vs := [str l[k].1, str l[k].2]) rfl rfl rfl rfl hlt (by decide) rfl) ?_
  refine L_o rfl rfl rfl (O_alloc fun b5 => ?_)
  refine L_s rfl rfl (O_stW 0 rfl rfl rfl rfl ?_)
  refine JL.norm ?_
  refine Ln ?_
  refine J_region ?_
  refine Lq (Q_move rfl) ?_
  refine Lq (Q_fa0 rfl) ?_
  refine Lq (Q_ld 0 rfl rfl rfl rfl) ?_
  refine Lq (Q_fa0 rfl) ?_
  refine Lq (Q_ld 0 rfl rfl rfl rfl) ?_
  refine L_o rfl rfl rfl (O_litP (τ := tS) (m := 2) (sz := 1) [l[k].1, l[k].2] rfl rfl rfl rfl rfl rfl (by decide) (fun S1 => ?_))
  refine JL.norm ?_
  refine L_o rfl rfl rfl (O_app (τ := tS) 2 rfl (fun w h => h.rd 0 rfl) rfl rfl rfl rfl (by simp; omega) (by decide) (fun S2 => ?_))
  refine JL.norm ?_
  refine Lq (Q_assign rfl) ?_
  refine JL_nil ?_
  refine blockQ_normal ?_
  refine seqQ_normal ?_
  refine J_region ?_
  refine Lq (Q_add rfl rfl (by first | exact IntWalk.i64_in _ (by omega) | exact IntWalk.u8_in _ (by omega) | exact IntWalk.u32_in _ (by omega) | exact IntWalk.u64_in _ (by omega) | rfl)) ?_
  refine Lq (Q_move rfl) ?_
  refine JL_nil ?_
  exact loopQ_normal (k + 1, S2) hlt (by simp only; omega) ⟨rfl, rfl, rfl, rfl, trivial⟩ (by simp only; rw [h1]; exact Ent.re [2,3,4] rfl)
 ·obtain rfl : k = l.length := by omega
  rw [List.take_length]
  refine J_exit ?_
  refine seqQ_exit ?_
  refine loopQ_exit ?_
  refine blockQ_hit ?_
  refine seqQ_normal ?_
  refine Sr ?_
  refine Lq (Q_move rfl) ?_
  refine L_o rfl rfl rfl (O_call [0] [1,2] (wtexts_ok E true B (flat l) (by rw [flat_length]; omega) hb) rfl rfl ?_)
  rintro _ _ ⟨rfl, rfl⟩
  refine JL.norm ?_
  refine Lq (Q_assign rfl) ?_
  refine Ln ?_
  refine J_ret ?_
  exact retQ_ret _ [slc tP full S l] (.cons (RV_tmp rfl) .nil) ⟨rfl, rfl⟩ (Ent.re [1,2] rfl)
end Go.Proofs
/- What is done to the slots, as one chunk; a number in four bytes; pairs as the slots have them. -/
set_option autoImplicit false
namespace Go.Proofs
open Go.SL Go.Proofs.Bt
def toPr (l : List Kv) : List Pr := l.map fun x => (x.key, x.val)
theorem flat_toPr (l : List Kv) : tP.flat (toPr l) = tKv.flat l := by
 induction l with
 | nil => rfl
 | cons x l ih =>
  have h1 : toPr (x :: l) = (x.key, x.val) :: toPr l := rfl
  rw [h1]
  simp only [Ty.flat, List.flatMap_cons] at ih ⊢
  rw [ih]; rfl
theorem slc_toPr (full : Bool) (S : SV) (l : List Kv) : slc tKv full S l = slc tP full S (toPr l) := by
 funext E h
 unfold slc
 rw [flat_toPr, show (toPr l).length = l.length from List.length_map ..]
 rfl
attribute [local irreducible] J JL QOp JOp seqQ blockQ loopQ retQ slc cel hex star pur stars Does RV Ent pAt scopeQ
attribute [local irreducible] nodeA nodeX treeA segA snapA
theorem swrite_ok (E : World) (p : Nat) (a b body : List UInt8) (upto : Int) (ha : a.length ≤ 100000) (hb : b.length ≤ 100000) :
 Does Tryz.prog E 45 [.pointer (some ⟨p, 0, none⟩), str body, .int .i64 upto] [snapA p a b] fun v L => v = .int .i64 (doW a b body upto).2.2 ∧ L = [snapA p (doW a b body upto).1 (doW a b body upto).2.1] := by
 refine Does.snap fun S T => ?_
 refine Does.post (write_ok E p S T a b body upto ha hb) (fun F => Ent.refl _) ?_
 rintro v L ⟨S', T', hv, rfl⟩
 exact ⟨_, ⟨hv, rfl⟩, fun F => Ent.snap⟩
theorem sload_ok (E : World) (p : Nat) (a b : List UInt8) (ha : a.length ≤ 100000) (hb : b.length ≤ 100000) :
 Does Tryz.prog E 44 [.pointer (some ⟨p, 0, none⟩)] [snapA p a b] fun v L => v = .tuple #[str (loadT a b), .int .i64 (loadN a b : Int)] ∧ L = [snapA p a b] := by
 refine Does.snap fun S T => ?_
 refine Does.post (load_ok E p S T a b ha hb) (fun F => Ent.refl _) ?_
 rintro v L ⟨hv, rfl⟩
 exact ⟨_, ⟨hv, rfl⟩, fun F => Ent.snap⟩
end Go.Proofs
/- Pairs packed by the document, walked. -/
set_option autoImplicit false
namespace Go.Proofs
open Go.SL
attribute [local irreducible] J JL QOp JOp seqQ blockQ loopQ retQ slc cel hex star pur stars Does RV Ent pAt
end Go.Proofs
/- Pairs unpacked, in plain Lean. -/
set_option autoImplicit false
namespace Go.Proofs
open Go.SL
def badK (prev : Option (List UInt8)) (k : List UInt8) : Bool := match prev with
 | none => false
 | some q => !(Op.bytesLess q k)
def unp : Option (List UInt8) → List (List UInt8) → Option (List Pr)
 | _, [] => some []
 | _, [_] => none
 | prev, k :: v :: r => if badK prev k = true then none else (unp (some k) r).map ((k, v) :: ·)
def unpT (s : List UInt8) : Option (List Pr) := (readT s).bind (unp none)
def unpL (s : List UInt8) : List Pr := (unpT s).getD []
def unpE (s : List UInt8) : Int := if (unpT s).isNone then 3 else 0
theorem unp_odd (n : Nat) : ∀ (p : Option (List UInt8)) (l : List (List UInt8)), l.length ≤ n → l.length % 2 = 1 → unp p l = none := by
 induction n with
 | zero => intro p l h1 h2; omega
 | succ n ih =>
  intro p l h1 h2
  match l, h1, h2 with
  | [_], _, _ => rfl
  | k :: v :: r, h1, h2 =>
   simp only [List.length_cons] at h1 h2
   simp only [unp]
   rw [ih _ r (by omega) (by omega)]
   simp
theorem unpT_none {s : List UInt8} (h : readT s = none) : unpT s = none := by unfold unpT; rw [h]; rfl
theorem unpT_some {s : List UInt8} {l : List (List UInt8)} (h : readT s = some l) : unpT s = unp none l := by unfold unpT; rw [h]; rfl
theorem readT_len (n : Nat) : ∀ (s : List UInt8) (l : List (List UInt8)), s.length ≤ n → readT s = some l → l.length ≤ s.length := by
 induction n with
 | zero => intro s l h1 h2; obtain rfl : s = [] := List.eq_nil_of_length_eq_zero (by omega); rw [readT_nil] at h2; cases h2; simp
 | succ n ih =>
  intro s l h1 h2
  by_cases hs : s = []
  ·subst hs; rw [readT_nil] at h2; cases h2; simp
  ·cases hx : nextT s with
   | none => rw [readT_none hs hx] at h2; cases h2
   | some tr =>
    obtain ⟨t, r⟩ := tr
    rw [readT_some hs hx] at h2
    have := nextT_lt hx
    cases hr : readT r with
    | none => rw [hr] at h2; cases h2
    | some l' =>
     rw [hr] at h2
     cases h2
     have := ih r l' (by omega) hr
     simp only [List.length_cons]; omega
theorem readL_len (s : List UInt8) : (readL s).length ≤ s.length := by
 unfold readL
 cases h : readT s with
 | none => simp
 | some l => exact readT_len _ s l (Nat.le_refl _) h
def lastK (out : List Pr) : Option (List UInt8) := out.getLast?.map (·.1)
theorem lastK_snoc (out : List Pr) (p : Pr) : lastK (out ++ [p]) = some p.1 := by simp [lastK]
theorem lastK_at (out : List Pr) (j : Nat) (h : out.length = j + 1) : lastK out = some (out[j]'(by omega)).1 := by
 unfold lastK
 rw [List.getLast?_eq_getElem?, show out.length - 1 = j by omega, List.getElem?_eq_getElem (by omega)]; rfl
end Go.Proofs
/- Pairs unpacked, walked. -/
set_option autoImplicit false
namespace Go.Proofs
open Go.SL
attribute [local irreducible] J JL QOp JOp seqQ blockQ loopQ retQ slc cel hex star pur stars Does RV Ent pAt
theorem unpack_ok (E : World) (s : List UInt8) (hs : s.length ≤ 100000000) : Does Tryz.prog E 77 [str s] [] fun v L => ∃ S : SV, v = .tuple #[S.v, .int .i64 (unpE s)] ∧ L = [slc tP true S (unpL s)] := by
 refine Does.of Tryz.func77 rfl Tryz.ntmps77 rfl rfl fun F => ?_
 refine J.norm ?_
 refine Sr ?_
 refine Lq (Q_assign rfl) ?_
 refine Lq (Q_assign rfl) ?_
 refine Ln ?_
 refine Sr ?_
 refine Lq (Q_move rfl) ?_
 refine L_o rfl rfl rfl (O_call [] [0] (wread_ok E s hs) rfl rfl ?_)
 rintro _ _ ⟨T, rfl, rfl⟩
 refine JL.norm ?_
 refine Lq (Q_move rfl) ?_
 refine Lq (Q_extract (v := T.v) rfl rfl) ?_
 refine Lq (Q_extract (v := .int .i64 (readE s)) rfl rfl) ?_
 refine Lq (Q_assign rfl) ?_
 refine Lq (Q_assign rfl) ?_
 refine Ln ?_
 refine J_seq ?_
 refine J_seq ?_
 have hlen := readL_len s
 cases hx : readT s with
 | none =>
  have e1 : readE s = 3 := by unfold readE; rw [hx]; rfl
  have e2 : unpE s = 3 := by unfold unpE; rw [unpT_none hx]; rfl
  have e3 : unpL s = [] := by unfold unpL; rw [unpT_none hx]; rfl
  rw [e1, e2, e3]
  refine J_region ?_
  refine Lq (Q_move rfl) ?_
  refine Lq ((Q_neq rfl rfl).as (v' := .bool true) rfl) ?_
  refine Lq (Q_move rfl) ?_
  refine L_n rfl rfl rfl ?_
  refine L_n rfl rfl rfl ?_
  refine L_n rfl rfl rfl ?_
  refine L_n rfl rfl rfl ?_
  refine Lq (Q_pickT rfl rfl) ?_
  refine Ln ?_
  refine J_condT rfl ?_
  refine Sr ?_
  refine Lq (Q_assign rfl) ?_
  refine Lq (Q_assign rfl) ?_
  refine Ln ?_
  refine J_ret ?_
  refine seqQ_ret ?_
  refine retQ_ret _ [slc tP true SV.nil []] (.cons (RV_tmp rfl) (.cons (RV_tmp rfl) .nil)) ⟨SV.nil, rfl, rfl⟩ ?_
  exact (Ent.mk fun _ _ h => (h.lay_nil tP true : Sat _ _ (slc tP true SV.nil [] :: _))).trans (Ent.re [0,2] rfl)
 | some t0 =>
  have e1 : readE s = 0 := by unfold readE; rw [hx]; rfl
  have e4 : readL s = t0 := by unfold readL; rw [hx]; rfl
  rw [e1, e4] 
  rw [e4] at hlen
  refine J_region ?_
  refine Lq (Q_move rfl) ?_
  refine Lq ((Q_neq rfl rfl).as (v' := .bool false) rfl) ?_
  refine Lq (Q_move rfl) ?_
  refine Lq (Q_move rfl) ?_
  refine Lq (Q_lenAt 0 rfl rfl) ?_
  refine Lq (Q_rem rfl rfl (by decide) (by first | exact IntWalk.rem_in _ _ (by omega) | rfl)) ?_
  refine Lq (Q_eql rfl rfl) ?_
  refine Lq (Q_pickF rfl rfl) ?_
  refine Ln ?_
  refine J_condD rfl (fun h => ?_) (fun h => ?_)
  ·have ho : t0.length % 2 = 1 := by omega
   have e5 : unpT s = none := by rw [unpT_some hx]; exact unp_odd _ _ _ (Nat.le_refl _) ho
   have e2 : unpE s = 3 := by unfold unpE; rw [e5]; rfl
   have e3 : unpL s = [] := by unfold unpL; rw [e5]; rfl
   rw [e2, e3]
   refine Sr ?_
   refine Lq (Q_assign rfl) ?_
   refine Lq (Q_assign rfl) ?_
   refine Ln ?_
   refine J_ret ?_
   refine seqQ_ret ?_
   refine retQ_ret _ [slc tP true SV.nil []] (.cons (RV_tmp rfl) (.cons (RV_tmp rfl) .nil)) ⟨SV.nil, rfl, rfl⟩ ?_
   exact (Ent.mk fun _ _ h => (h.lay_nil tP true : Sat _ _ (slc tP true SV.nil [] :: _))).trans (Ent.re [0,2] rfl)
  have ho : t0.length % 2 = 0 := by omega
  refine J_skip ?_
  refine seqQ_normal ?_
  refine Sr ?_
  refine Lq (Q_assign rfl) ?_
  refine Ln ?_
  refine J_seq ?_
  refine J_block ?_
  refine J.ent (Ent.mk fun _ _ h => (h.lay_nil tP true : Sat _ _ (slc tP true SV.nil [] :: _))) ?_
  refine J_loop (fun i : List Pr × SV × List (List UInt8) × SV => unp none t0 = (unp (lastK i.1) i.2.2.1).map (i.1 ++ ·) ∧ i.2.2.1.length % 2 = 0 ∧ 2 * i.1.length + i.2.2.1.length = t0.length) (fun i => [(4, i.2.2.2.v), (6, i.2.1.v)])
   (fun i => [slc tP true i.2.1 i.1, slc tS true i.2.2.2 i.2.2.1, F]) (fun i => i.2.2.1.length) ([], SV.nil, t0, T) ⟨by simp [lastK], ho, by simp⟩ ⟨rfl, rfl, trivial⟩ (Ent.refl _) ?_
  rintro ⟨out, B, t, U⟩ ⟨h1, h2, h3⟩
  dsimp only at h1 h2 h3 ⊢
  refine J_seq ?_
  refine Sr ?_
  refine Lq (Q_move rfl) ?_
  refine Lq (Q_lenAt 1 rfl rfl) ?_
  refine Lq (Q_gtr rfl rfl) ?_
  refine Ln ?_
  refine J_condD rfl (fun h4 => ?_) (fun h4 => ?_)
  ·obtain ⟨k, v, r, rfl⟩ : ∃ k v r, t = k :: v :: r := by
    match t, h2, h4 with
    | k :: v :: r, _, _ => exact ⟨k, v, r, rfl⟩
   refine J_skip ?_
   refine seqQ_normal ?_
   refine J_seq ?_
   refine J_block ?_
   refine J_seq ?_
   refine Sr ?_
   refine Lq (Q_move rfl) ?_
   refine Lq (Q_lenAt 0 rfl rfl) ?_
   refine Lq (Q_assign rfl) ?_
   refine Ln ?_
   refine J_seq ?_
   cases hb : badK (lastK out) k with
   | true =>
    have e5 : unpT s = none := by rw [unpT_some hx, h1]; simp [unp, hb]
    have e2 : unpE s = 3 := by unfold unpE; rw [e5]; rfl
    have e3 : unpL s = [] := by unfold unpL; rw [e5]; rfl
    rw [e2, e3]
    match hout : out.length with
    | 0 => rw [List.eq_nil_of_length_eq_zero hout] at hb; cases hb
    | j + 1 =>
     have hj : j < out.length := by omega
     have hl := lastK_at out j hout
     have hc : Op.bytesLess out[j].1 k = false := by rw [hl] at hb; simpa [badK] using hb
     refine DH [0,1] [0,1,2,3,4,5,6,7,8,9,10,11,12,13] (.quiet 0 (.quiet 1 (.quiet 2 (.quiet 3 (.quiet 4 (.quiet 5 (.quiet 6 (.quiet 7 (.quiet 8 (.quiet 9 (.quiet 10 (.quiet 11 (.quiet 12 (.quiet 13 .done)))))))))))))) Tryz.mixed ?_
     refine Sq (Ent.re [0,1] rfl) rfl (Q_move rfl) ?_
     refine Sq (Ent.re [0,1] rfl) rfl ((Q_gtr rfl rfl).as (v' := .bool true) (congrArg Value.bool (decide_eq_true (by omega)))) ?_
     refine Sq (Ent.re [0,1] rfl) rfl (Q_move rfl) ?_
     refine Sq (Ent.re [0,1] rfl) rfl (Q_move rfl) ?_
     refine Sq (Ent.re [0,1] rfl) rfl (Q_move rfl) ?_
     refine Sq (Ent.re [0,1] rfl) rfl (Q_sub rfl rfl (by first | exact IntWalk.i64_in _ (by omega) | exact IntWalk.u8_in _ (by omega) | exact IntWalk.u32_in _ (by omega) | exact IntWalk.u64_in _ (by omega) | rfl)) ?_
     refine Sq (Ent.re [0,1] rfl) rfl (Q_ixAt 0 j rfl rfl rfl (by omega) hj rfl) ?_
     refine Sq (Ent.re [0,1] rfl) rfl (Q_pfa rfl) ?_
     refine Sq (Ent.re [0,1] rfl) rfl (Q_ldEAt 0 j 0 (v := str out[j].1) rfl rfl rfl rfl hj (by decide) rfl) ?_
     refine Sq (Ent.re [0,1] rfl) rfl (Q_move rfl) ?_
     refine Sq (Ent.re [0,1] rfl) rfl (Q_ixAt 1 0 rfl rfl rfl rfl (by simp) rfl) ?_
     refine Sq (Ent.re [0,1] rfl) rfl (Q_ldEAt 1 0 0 (v := str k) rfl rfl rfl rfl (by simp) (by decide) rfl) ?_
     refine Sq (Ent.re [0,1] rfl) rfl ((Q_sgeq rfl rfl).as (v' := .bool true) (by rw [hc]; rfl)) ?_
     refine Sq (Ent.re [0,1] rfl) rfl (Q_pickT rfl rfl) ?_
     refine S_nil ?_
     refine seqQ_normal ?_
     refine J_condT rfl ?_
     refine Sr ?_
     refine Lq (Q_assign rfl) ?_
     refine Lq (Q_assign rfl) ?_
     refine Ln ?_
     refine J_ret ?_
     refine seqQ_ret ?_
     refine blockQ_ret ?_
     refine seqQ_ret ?_
     refine loopQ_ret ?_
     refine blockQ_ret ?_
     refine seqQ_ret ?_
     refine retQ_ret _ [slc tP true SV.nil []] (.cons (RV_tmp rfl) (.cons (RV_tmp rfl) .nil)) ⟨SV.nil, rfl, rfl⟩ ?_
     exact (Ent.mk fun _ _ h => (h.lay_nil tP true : Sat _ _ (slc tP true SV.nil [] :: _))).trans (Ent.re [0,3] rfl)
   | false =>
    have h5 : unp none t0 = (unp (lastK (out ++ [(k, v)])) r).map (out ++ [(k, v)] ++ ·) := by
     rw [h1, lastK_snoc]
     simp only [unp, hb, Bool.false_eq_true, if_false]
     cases unp (some k) r <;> simp
    simp only [List.length_cons] at h2 h3
    match hout : out.length with
    | 0 =>
     refine DH [0,1] [0,1,2,3,4,5,6,7,8,9,10,11,12,13] (.quiet 0 (.quiet 1 (.quiet 2 (.quiet 3 (.quiet 4 (.quiet 5 (.quiet 6 (.quiet 7 (.quiet 8 (.quiet 9 (.quiet 10 (.quiet 11 (.quiet 12 (.quiet 13 .done)))))))))))))) Tryz.mixed ?_
     refine Sq (Ent.re [0,1] rfl) rfl (Q_move rfl) ?_
     refine Sq (Ent.re [0,1] rfl) rfl ((Q_gtr rfl rfl).as (v' := .bool false) (congrArg Value.bool (decide_eq_false (by omega)))) ?_
     refine Sq (Ent.re [0,1] rfl) rfl (Q_move rfl) ?_
     refine S_n (Ent.re [0,1] rfl) rfl rfl rfl rfl ?_
     refine S_n (Ent.re [0,1] rfl) rfl rfl rfl rfl ?_
     refine S_n (Ent.re [0,1] rfl) rfl rfl rfl rfl ?_
     refine S_n (Ent.re [0,1] rfl) rfl rfl rfl rfl ?_
     refine S_n (Ent.re [0,1] rfl) rfl rfl rfl rfl ?_
     refine S_n (Ent.re [0,1] rfl) rfl rfl rfl rfl ?_
     refine S_n (Ent.re [0,1] rfl) rfl rfl rfl rfl ?_
     refine S_n (Ent.re [0,1] rfl) rfl rfl rfl rfl ?_
     refine S_n (Ent.re [0,1] rfl) rfl rfl rfl rfl ?_
     refine S_n (Ent.re [0,1] rfl) rfl rfl rfl rfl ?_
     refine Sq (Ent.re [0,1] rfl) rfl (Q_pickF rfl rfl) ?_
     refine S_nil ?_
     refine seqQ_normal ?_
     refine J_condF rfl ?_
     refine J_skip ?_
     refine seqQ_normal ?_
     refine DH [1] [0,1,2,3,4,5,6,7,10] (.quiet 0 (.quiet 1 (.quiet 2 (.quiet 3 (.quiet 4 (.quiet 5 (.quiet 6 (.quiet 7 (.loud 8 (.loud 9 (.quiet 10 .done))))))))))) Tryz.mixed ?_
     refine Sq (Ent.re [1] rfl) rfl (Q_move rfl) ?_
     refine Sq (Ent.re [1] rfl) rfl (Q_move rfl) ?_
     refine Sq (Ent.re [1] rfl) rfl (Q_ixAt 0 0 rfl rfl rfl rfl (by simp) rfl) ?_
     refine Sq (Ent.re [1] rfl) rfl (Q_ldEAt 0 0 0 (v := str k) rfl rfl rfl rfl (by simp) (by decide) rfl) ?_
     refine Sq (Ent.re [1] rfl) rfl (Q_move rfl) ?_
     refine Sq (Ent.re [1] rfl) rfl (Q_ixAt 0 1 rfl rfl rfl rfl (by simp) rfl) ?_
     refine Sq (Ent.re [1] rfl) rfl (Q_ldEAt 0 1 0 (v := str v) rfl rfl rfl rfl (by simp) (by decide) rfl) ?_
     refine Sq (Ent.re [1] rfl) rfl (Q_build rfl) ?_
     refine S_o rfl rfl rfl rfl (O_litP (τ := tP) (m := 1) (sz := 2) [(k, v)] rfl rfl rfl rfl rfl rfl (by decide) (fun S1 => ⟨_, fun _ => ⟨Ent.reN [2] rfl, Ent.refl _⟩, ?_⟩))
     refine JS.norm ?_
     refine S_o rfl rfl rfl rfl (O_app (τ := tP) 1 rfl (fun w h => h.rd 0 rfl) rfl rfl rfl rfl (by simp; omega) (by decide) (fun S2 => ⟨_, fun _ => ⟨Ent.reN [2] rfl, Ent.refl _⟩, ?_⟩))
     refine JS.norm ?_
     refine Sq (Ent.re [2] rfl) rfl (Q_assign rfl) ?_
     refine S_nil ?_
     refine blockQ_normal ?_
     refine seqQ_normal ?_
     refine J_region ?_
     refine Lq (Q_move rfl) ?_
     refine Lq (Q_slL (τ := tS) 2 (fun w h => h.rd 2 rfl) rfl rfl rfl (by simp) rfl) ?_
     refine Lq (Q_assign rfl) ?_
     refine JL_nil ?_
     refine loopQ_normal (out ++ [(k, v)], S2, r, U.sub 1 2 (k :: v :: r).length) ⟨h5, by simp only; omega, by simp; omega⟩ (by simp; omega) ⟨rfl, rfl, trivial⟩ ?_
     exact (Ent.sub 2 2 (k :: v :: r).length rfl (by simp) (Nat.le_refl _)).trans (by rw [show ((k :: v :: r).take (k :: v :: r).length).drop 2 = r by simp]; exact Ent.re [1,2,3] rfl)
    | j + 1 =>
     have hj : j < out.length := by omega
     have hl := lastK_at out j hout
     have hc : Op.bytesLess out[j].1 k = true := by rw [hl] at hb; simpa [badK] using hb
     refine DH [0,1] [0,1,2,3,4,5,6,7,8,9,10,11,12,13] (.quiet 0 (.quiet 1 (.quiet 2 (.quiet 3 (.quiet 4 (.quiet 5 (.quiet 6 (.quiet 7 (.quiet 8 (.quiet 9 (.quiet 10 (.quiet 11 (.quiet 12 (.quiet 13 .done)))))))))))))) Tryz.mixed ?_
     refine Sq (Ent.re [0,1] rfl) rfl (Q_move rfl) ?_
     refine Sq (Ent.re [0,1] rfl) rfl ((Q_gtr rfl rfl).as (v' := .bool true) (congrArg Value.bool (decide_eq_true (by omega)))) ?_
     refine Sq (Ent.re [0,1] rfl) rfl (Q_move rfl) ?_
     refine Sq (Ent.re [0,1] rfl) rfl (Q_move rfl) ?_
     refine Sq (Ent.re [0,1] rfl) rfl (Q_move rfl) ?_
     refine Sq (Ent.re [0,1] rfl) rfl (Q_sub rfl rfl (by first | exact IntWalk.i64_in _ (by omega) | exact IntWalk.u8_in _ (by omega) | exact IntWalk.u32_in _ (by omega) | exact IntWalk.u64_in _ (by omega) | rfl)) ?_
     refine Sq (Ent.re [0,1] rfl) rfl (Q_ixAt 0 j rfl rfl rfl (by omega) hj rfl) ?_
     refine Sq (Ent.re [0,1] rfl) rfl (Q_pfa rfl) ?_
     refine Sq (Ent.re [0,1] rfl) rfl (Q_ldEAt 0 j 0 (v := str out[j].1) rfl rfl rfl rfl hj (by decide) rfl) ?_
     refine Sq (Ent.re [0,1] rfl) rfl (Q_move rfl) ?_
     refine Sq (Ent.re [0,1] rfl) rfl (Q_ixAt 1 0 rfl rfl rfl rfl (by simp) rfl) ?_
     refine Sq (Ent.re [0,1] rfl) rfl (Q_ldEAt 1 0 0 (v := str k) rfl rfl rfl rfl (by simp) (by decide) rfl) ?_
     refine Sq (Ent.re [0,1] rfl) rfl ((Q_sgeq rfl rfl).as (v' := .bool false) (by rw [hc]; rfl)) ?_
     refine Sq (Ent.re [0,1] rfl) rfl (Q_pickT rfl rfl) ?_
     refine S_nil ?_
     refine seqQ_normal ?_
     refine J_condF rfl ?_
     refine J_skip ?_
     refine seqQ_normal ?_
     refine DH [1] [0,1,2,3,4,5,6,7,10] (.quiet 0 (.quiet 1 (.quiet 2 (.quiet 3 (.quiet 4 (.quiet 5 (.quiet 6 (.quiet 7 (.loud 8 (.loud 9 (.quiet 10 .done))))))))))) Tryz.mixed ?_
     refine Sq (Ent.re [1] rfl) rfl (Q_move rfl) ?_
     refine Sq (Ent.re [1] rfl) rfl (Q_move rfl) ?_
     refine Sq (Ent.re [1] rfl) rfl (Q_ixAt 0 0 rfl rfl rfl rfl (by simp) rfl) ?_
     refine Sq (Ent.re [1] rfl) rfl (Q_ldEAt 0 0 0 (v := str k) rfl rfl rfl rfl (by simp) (by decide) rfl) ?_
     refine Sq (Ent.re [1] rfl) rfl (Q_move rfl) ?_
     refine Sq (Ent.re [1] rfl) rfl (Q_ixAt 0 1 rfl rfl rfl rfl (by simp) rfl) ?_
     refine Sq (Ent.re [1] rfl) rfl (Q_ldEAt 0 1 0 (v := str v) rfl rfl rfl rfl (by simp) (by decide) rfl) ?_
     refine Sq (Ent.re [1] rfl) rfl (Q_build rfl) ?_
     refine S_o rfl rfl rfl rfl (O_litP (τ := tP) (m := 1) (sz := 2) [(k, v)] rfl rfl rfl rfl rfl rfl (by decide) (fun S1 => ⟨_, fun _ => ⟨Ent.reN [2] rfl, Ent.refl _⟩, ?_⟩))
     refine JS.norm ?_
     refine S_o rfl rfl rfl rfl (O_app (τ := tP) 1 rfl (fun w h => h.rd 0 rfl) rfl rfl rfl rfl (by simp; omega) (by decide) (fun S2 => ⟨_, fun _ => ⟨Ent.reN [2] rfl, Ent.refl _⟩, ?_⟩))
     refine JS.norm ?_
     refine Sq (Ent.re [2] rfl) rfl (Q_assign rfl) ?_
     refine S_nil ?_
     refine blockQ_normal ?_
     refine seqQ_normal ?_
     refine J_region ?_
     refine Lq (Q_move rfl) ?_
     refine Lq (Q_slL (τ := tS) 2 (fun w h => h.rd 2 rfl) rfl rfl rfl (by simp) rfl) ?_
     refine Lq (Q_assign rfl) ?_
     refine JL_nil ?_
     refine loopQ_normal (out ++ [(k, v)], S2, r, U.sub 1 2 (k :: v :: r).length) ⟨h5, by simp only; omega, by simp; omega⟩ (by simp; omega) ⟨rfl, rfl, trivial⟩ ?_
     exact (Ent.sub 2 2 (k :: v :: r).length rfl (by simp) (Nat.le_refl _)).trans (by rw [show ((k :: v :: r).take (k :: v :: r).length).drop 2 = r by simp]; exact Ent.re [1,2,3] rfl)
  ·obtain rfl : t = [] := List.eq_nil_of_length_eq_zero (by omega)
   have e5 : unpT s = some out := by rw [unpT_some hx, h1]; simp [unp]
   have e2 : unpE s = 0 := by unfold unpE; rw [e5]; rfl
   have e3 : unpL s = out := by unfold unpL; rw [e5]; rfl
   rw [e2, e3]
   refine J_exit ?_
   refine seqQ_exit ?_
   refine loopQ_exit ?_
   refine blockQ_hit ?_
   refine seqQ_normal ?_
   refine Sr ?_
   refine Lq (Q_move rfl) ?_
   refine Lq (Q_assign rfl) ?_
   refine Lq (Q_assign rfl) ?_
   refine Ln ?_
   refine J_ret ?_
   exact retQ_ret _ [slc tP true B out] (.cons (RV_tmp rfl) (.cons (RV_tmp rfl) .nil)) ⟨B, rfl, rfl⟩ (Ent.re [0,2] rfl)
end Go.Proofs
/- The document's slots, walked. -/
set_option autoImplicit false
namespace Go.Proofs
open Go.SL
attribute [local irreducible] J JL QOp JOp seqQ blockQ loopQ retQ slc cel hex star pur stars Does RV Ent pAt
end Go.Proofs
/- Which slot the document tells. -/
set_option autoImplicit false
namespace Go.Proofs
open Go.SL
attribute [local irreducible] J JL QOp JOp seqQ blockQ loopQ retQ slc cel hex star pur stars Does RV Ent pAt
end Go.Proofs
/- What the document tells of the slots. -/
set_option autoImplicit false
namespace Go.Proofs
open Go.SL
attribute [local irreducible] J JL QOp JOp seqQ blockQ loopQ retQ slc cel hex star pur stars Does RV Ent pAt
end Go.Proofs
/- The document's write into the slots. -/
set_option autoImplicit false
namespace Go.Proofs
open Go.SL
attribute [local irreducible] J JL QOp JOp seqQ blockQ loopQ retQ slc cel hex star pur stars Does RV Ent pAt
end Go.Proofs
/- A byte of a slot, spoilt. -/
set_option autoImplicit false
namespace Go.Proofs
open Go.SL
attribute [local irreducible] J JL QOp JOp seqQ blockQ loopQ retQ slc cel hex star pur stars Does RV Ent pAt
end Go.Proofs
/- The document's spoilt byte. -/
set_option autoImplicit false
namespace Go.Proofs
open Go.SL
attribute [local irreducible] J JL QOp JOp seqQ blockQ loopQ retQ slc cel hex star pur stars Does RV Ent pAt
end Go.Proofs
/- What the slots tell behind writes, whole or cut, and behind a byte that is another one, in plain Lean. -/
set_option autoImplicit false
namespace Go.Proofs
open Go.SL
theorem be_four (n : Nat) : be (four n) = n % 2 ^ 32 := by
 simp only [be, four, List.foldl_cons, List.foldl_nil, UInt8.toNat_ofNat']
 omega
/-- A slot with a body that is whole. -/
def whole (g : Nat) (body : List UInt8) : List UInt8 :=
 four (crc (four (g % 2 ^ 32) ++ four (body.length % 2 ^ 32) ++ body)) ++ (four (g % 2 ^ 32) ++ four (body.length % 2 ^ 32) ++ body)
theorem four_len (n : Nat) : (four n).length = 4 := rfl
theorem whole_len (g : Nat) (body : List UInt8) : (whole g body).length = 12 + body.length := by simp [whole, four_len]; omega
theorem whole_drop4 (g : Nat) (body : List UInt8) : (whole g body).drop 4 = four (g % 2 ^ 32) ++ four (body.length % 2 ^ 32) ++ body := rfl
theorem whole_drop12 (g : Nat) (body : List UInt8) : (whole g body).drop 12 = body := rfl
theorem whole_nw0 (g : Nat) (body : List UInt8) : nw (whole g body) 0 = crc ((whole g body).drop 4) := by
 rw [whole_drop4]
 show be (four _) = _
 rw [be_four, Nat.mod_eq_of_lt (crc_lt _)]
theorem whole_nw1 (g : Nat) (body : List UInt8) : nw (whole g body) 1 = g % 2 ^ 32 := by
 show be (four _) = _
 rw [be_four, Nat.mod_mod]
theorem whole_nw2 (g : Nat) (body : List UInt8) : nw (whole g body) 2 = body.length % 2 ^ 32 := by
 show be (four _) = _
 rw [be_four, Nat.mod_mod]
theorem whole_right (g : Nat) (body : List UInt8) : rightB (whole g body) = true := by
 have h := whole_len g body
 simp only [rightB, Bool.and_eq_true, decide_eq_true_eq]
 exact ⟨by omega, whole_nw0 g body, by rw [whole_nw2, h]; congr 1; omega⟩
theorem cut_right (g : Nat) (body : List UInt8) (n : Nat) (hb : body.length ≤ 32768) (hn : n < 12 + body.length) : rightB ((whole g body).take n) = false := by
 have h := whole_len g body
 simp only [rightB, Bool.and_eq_false_iff, decide_eq_false_iff_not, List.length_take, h]
 by_cases h12 : 12 ≤ n
 ·right; right
  have e : nw ((whole g body).take n) 2 = nw (whole g body) 2 := by
   unfold nw
   congr 1
   rw [List.drop_take, List.take_take]
   congr 1
   omega
  rw [e, whole_nw2]
  omega
 ·left; omega
theorem wrote_eq (a b body : List UInt8) (upto : Int) : wrote a b body upto = if 0 ≤ upto ∧ upto < ((12 + body.length : Nat) : Int) then (whole (loadN a b + 1) body).take upto.toNat else whole (loadN a b + 1) body := by
 have h := whole_len (loadN a b + 1) body
 rw [← h]
 rfl
/-- Are these slots telling the body, written as the n-th? -/
def Tells (a b w : List UInt8) (n : Nat) : Prop :=
 (n = 0 ∧ w = [] ∧ rightB a = false ∧ rightB b = false) ∨ (0 < n ∧ rightB a = true ∧ nw a 1 = n ∧ a.drop 12 = w ∧ (rightB b = false ∨ nw b 1 ≤ n)) ∨
 (0 < n ∧ rightB b = true ∧ nw b 1 = n ∧ b.drop 12 = w ∧ (rightB a = false ∨ nw a 1 < n))
theorem tells_nil : Tells [] [] [] 0 := .inl ⟨rfl, rfl, rfl, rfl⟩
theorem Tells.told {a b w : List UInt8} {n : Nat} (h : Tells a b w n) : (n = 0 ∧ w = [] ∧ rightB a = false ∧ rightB b = false ∧ told a b = -1) ∨
 (0 < n ∧ rightB a = true ∧ nw a 1 = n ∧ a.drop 12 = w ∧ told a b = 0) ∨ (0 < n ∧ rightB b = true ∧ nw b 1 = n ∧ b.drop 12 = w ∧ told a b = 1) := by
 rcases h with ⟨h1, h2, h3, h4⟩ | ⟨h1, h2, h3, h4, h5⟩ | ⟨h1, h2, h3, h4, h5⟩
 ·exact .inl ⟨h1, h2, h3, h4, by simp [Go.Proofs.told, h3, h4]⟩
 ·refine .inr (.inl ⟨h1, h2, h3, h4, ?_⟩)
  unfold Go.Proofs.told
  rw [if_neg, if_pos h2]
  rintro ⟨h6, h7⟩
  rcases h5 with h5 | h5
  ·rw [h5] at h6; cases h6
  ·rcases h7 with h7 | h7
   ·rw [h2] at h7; cases h7
   ·omega
 ·refine .inr (.inr ⟨h1, h2, h3, h4, ?_⟩)
  unfold Go.Proofs.told
  rw [if_pos]
  refine ⟨h2, h5.imp id fun h => by omega⟩
theorem Tells.load {a b w : List UInt8} {n : Nat} (h : Tells a b w n) : loadT a b = w ∧ loadN a b = n := by
 rcases h.told with ⟨h1, h2, _, _, h5⟩ | ⟨_, _, h3, h4, h5⟩ | ⟨_, _, h3, h4, h5⟩ <;> simp [loadT, loadN, h5, *]
def wholeN (body : List UInt8) (upto : Int) : Prop := upto < 0 ∨ (body.length : Int) ≤ upto - 12
instance (body : List UInt8) (upto : Int) : Decidable (wholeN body upto) := inferInstanceAs (Decidable (_ ∨ _))
theorem write_cut {a b body w : List UInt8} {upto : Int} {n : Nat} (h : Tells a b w n) (hb : body.length ≤ 32768) (hc : ¬ wholeN body upto) :
 Tells (doW a b body upto).1 (doW a b body upto).2.1 w n := by
 have hu : 0 ≤ upto ∧ upto < ((12 + body.length : Nat) : Int) := by unfold wholeN at hc; omega
 have hr := cut_right (loadN a b + 1) body upto.toNat hb (by omega)
 have hw : wrote a b body upto = (whole (loadN a b + 1) body).take upto.toNat := by rw [wrote_eq, if_pos hu]
 rw [← hw] at hr
 unfold doW
 rw [if_neg (by omega)]
 generalize wrote a b body upto = u at hr
 rcases h.told with ⟨h1, h2, h3, h4, h5⟩ | ⟨h1, h2, h3, h4, h5⟩ | ⟨h1, h2, h3, h4, h5⟩
 ·rw [h5]; exact .inl ⟨h1, h2, hr, h4⟩
 ·rw [h5]; exact .inr (.inl ⟨h1, h2, h3, h4, .inl hr⟩)
 ·rw [h5]; exact .inr (.inr ⟨h1, h2, h3, h4, .inl hr⟩)
theorem write_whole {a b body w : List UInt8} {upto : Int} {n : Nat} (h : Tells a b w n) (hn : n < 1000) (hb : body.length ≤ 32768) (hc : wholeN body upto) :
 Tells (doW a b body upto).1 (doW a b body upto).2.1 body (n + 1) := by
 have hu : ¬ (0 ≤ upto ∧ upto < ((12 + body.length : Nat) : Int)) := by unfold wholeN at hc; omega
 have hw : wrote a b body upto = whole (loadN a b + 1) body := by rw [wrote_eq, if_neg hu]
 rw [h.load.2] at hw
 have h6 := whole_right (n + 1) body
 have h7 := whole_nw1 (n + 1) body
 have h8 := whole_drop12 (n + 1) body
 rw [Nat.mod_eq_of_lt (by omega)] at h7
 unfold doW
 rw [if_neg (by omega), hw]
 generalize whole (n + 1) body = u at h6 h7 h8
 rcases h.told with ⟨h1, h2, h3, h4, h5⟩ | ⟨h1, h2, h3, h4, h5⟩ | ⟨h1, h2, h3, h4, h5⟩
 ·rw [h5]; exact .inr (.inl ⟨by omega, h6, h7, h8, .inl h4⟩)
 ·rw [h5, if_pos rfl]; exact .inr (.inr ⟨by omega, h6, h7, h8, .inr (by simp only; omega)⟩)
 ·rw [h5, if_neg (by decide)]; exact .inr (.inl ⟨by omega, h6, h7, h8, .inr (by simp only; omega)⟩)
theorem doW_err {a b body : List UInt8} {upto : Int} (h : 32768 < body.length) : doW a b body upto = (a, b, 2) := by unfold doW; rw [if_pos h]
theorem doW_ok {a b body : List UInt8} {upto : Int} (h : body.length ≤ 32768) : (doW a b body upto).2.2 = 0 := by
 unfold doW; rw [if_neg (by omega)]; split <;> rfl
theorem wrote_len (a b body : List UInt8) (upto : Int) : (wrote a b body upto).length ≤ 12 + body.length := by
 rw [wrote_eq]
 split
 ·rw [List.length_take, whole_len]; omega
 ·rw [whole_len]; omega
theorem doW_len {a b body : List UInt8} {upto : Int} (ha : a.length ≤ 40000) (hb : b.length ≤ 40000) : (doW a b body upto).1.length ≤ 40000 ∧ (doW a b body upto).2.1.length ≤ 40000 := by
 have := wrote_len a b body upto
 unfold doW
 split
 ·exact ⟨ha, hb⟩
 ·split
  ·simp only; omega
  ·simp only; omega
end Go.Proofs
/- A number in four bytes; the store as one chunk. -/
set_option autoImplicit false
namespace Go.Proofs
open Go.SL Go.Proofs.Bt
abbrev kvC (p pt pl ps : Nat) (saved : Int) : HProp := cel p [.pointer (some ⟨pt, 0, none⟩), .pointer (some ⟨pl, 0, none⟩), .pointer (some ⟨ps, 0, none⟩), .int .i64 saved] 90
attribute [local irreducible] J JL QOp JOp seqQ blockQ loopQ retQ slc cel hex star pur stars Does RV Ent pAt scopeQ
attribute [local irreducible] nodeA nodeX treeA segA snapA
theorem kfour_ok (E : World) (n : Nat) : Does Tryz.prog E 46 [.int .i64 (n : Int)] [] fun v L => v = str (four n) ∧ L = [] := by
 refine Does.of Tryz.func46 rfl Tryz.ntmps46 rfl rfl fun F => ?_
 refine J.norm ?_
 refine Sr ?_
 refine Lq (Q_assign rfl) ?_
 refine Ln ?_
 refine Sr ?_
 refine Lq (Q_move rfl) ?_
 refine Lq (Q_shrZ n 24 rfl rfl rfl rfl (by decide)) ?_
 refine Lq (Q_cvtN (n / 2 ^ 24) rfl rfl) ?_
 refine Lq (Q_move rfl) ?_
 refine Lq (Q_shrZ n 16 rfl rfl rfl rfl (by decide)) ?_
 refine Lq (Q_cvtN (n / 2 ^ 16) rfl rfl) ?_
 refine Lq (Q_move rfl) ?_
 refine Lq (Q_shrZ n 8 rfl rfl rfl rfl (by decide)) ?_
 refine Lq (Q_cvtN (n / 2 ^ 8) rfl rfl) ?_
 refine Lq (Q_move rfl) ?_
 refine Lq (Q_cvtN n rfl rfl) ?_
 refine L_o rfl rfl rfl (O_litP (τ := tB) (m := 4) (sz := 1) (four n) rfl rfl rfl rfl rfl rfl (by decide) (fun S => ?_))
 refine JL.norm ?_
 refine Lq (Q_b2s tB_enc (fun w h => h.rd 0 rfl) rfl) ?_
 refine Lq (Q_assign rfl) ?_
 refine Ln ?_
 refine J_ret ?_
 exact retQ_ret _ [] (.cons (RV_tmp rfl) .nil) ⟨rfl, rfl⟩ (Ent.re [1] rfl)
theorem knew_ok (E : World) (z : Int) : Does Tryz.prog E 15 [.int .i64 z] [] fun v L => ∃ p pt pl ps : Nat, v = .pointer (some ⟨p, 0, none⟩) ∧ L = [kvC p pt pl ps 0, treeA pt [], segA pl ⟨newSize z, 0, []⟩, snapA ps [] []] := by
 refine Does.of Tryz.func15 rfl Tryz.ntmps15 rfl rfl fun F => ?_
 refine J.norm ?_
 refine Sr ?_
 refine Lq (Q_assign rfl) ?_
 refine Ln ?_
 refine Sr ?_
 refine L_o rfl rfl rfl (O_call [] [0] (tnew_ok E) rfl rfl ?_)
 rintro _ _ ⟨pt, rfl, rfl⟩
 refine JL.norm ?_
 refine Lq (Q_move rfl) ?_
 refine L_o rfl rfl rfl (O_call [] [0,1] (segnew_ok E z) rfl rfl ?_)
 rintro _ _ ⟨pl, rfl, rfl⟩
 refine JL.norm ?_
 refine L_o rfl rfl rfl (O_call [] [0,1,2,3,4] (snew_ok E) rfl rfl ?_)
 rintro _ _ ⟨ps, rfl, rfl⟩
 refine JL.norm ?_
 refine Lq (Q_build rfl) ?_
 refine L_o rfl rfl rfl (O_box rfl fun b8 => ?_)
 refine Lq (Q_assign rfl) ?_
 refine Ln ?_
 refine J_ret ?_
 refine retQ_ret _ [kvC b8 pt pl ps 0, treeA pt [], segA pl ⟨newSize z, 0, []⟩, snapA ps [] []] (.cons (RV_tmp rfl) .nil) ⟨b8, pt, pl, ps, rfl, rfl⟩ ?_
 refine (Ent.re [1,2,3,0,4,5,6,7,8] rfl).trans (Ent.snap.trans ?_)
 refine (Ent.re [2,3,4,0,1,5,6] rfl).trans ((Ent.seg (g := ⟨newSize z, 0, []⟩) rfl rfl rfl).trans ?_)
 exact Ent.re [2,3,0,1,4] rfl
end Go.Proofs
/- A change done and logged. -/
set_option autoImplicit false
namespace Go.Proofs
open Go.SL Go.Proofs.Bt
attribute [local irreducible] J JL QOp JOp seqQ blockQ loopQ retQ slc cel hex star pur stars Does RV Ent pAt scopeQ
attribute [local irreducible] nodeA nodeX treeA segA snapA
theorem chPut_ok (E : World) (p pt pl ps c : Nat) (saved : Int) (g : Lg) (l : List Kv) (k v : Ky) (hkv : k.length + v.length ≤ 1000000) (hg : Good g c) (hc : c ≤ 1000000) (hl : l.length ≤ 1000000) : Does Tryz.prog E 40 [.pointer (some ⟨p, 0, none⟩), chV (.put k v)] [kvC p pt pl ps saved, treeA pt l, segA pl g] fun r L => r = .int .i64 (appL g (chB (.put k v))).2.2 ∧ L = [kvC p pt pl ps saved, treeA pt (if (appL g (chB (.put k v))).2.2 = 0 then putL l k v else l), segA pl (appL g (chB (.put k v))).1] := by
 have hb := putB_ok E k v hkv
 have ha := gappend_ok E pl c g hg (by omega) (chB (.put k v))
 refine Does.of Tryz.func40 rfl Tryz.ntmps40 rfl rfl fun F => ?_
 refine J.norm ?_
 refine Sr ?_
 refine Lq (Q_assign rfl) ?_
 refine Ln ?_
 refine J_seq ?_
 refine J_seq ?_
 refine DH [0] [0,1,2,3,4,7,8,9,10,11] (.quiet 0 (.quiet 1 (.quiet 2 (.quiet 3 (.quiet 4 (.loud 5 (.loud 6 (.quiet 7 (.quiet 8 (.quiet 9 (.quiet 10 (.quiet 11 .done)))))))))))) Tryz.mixed ?_
 refine Sq (Ent.re [0] rfl) rfl (Q_move rfl) ?_
 refine Sq (Ent.re [0] rfl) rfl (Q_nilCheck rfl) ?_
 refine Sq (Ent.re [0] rfl) rfl (Q_fa0 rfl) ?_
 refine Sq (Ent.re [0] rfl) rfl (Q_ld 0 rfl rfl rfl rfl) ?_
 refine Sq (Ent.re [0] rfl) rfl (Q_move rfl) ?_
 refine S_o rfl rfl rfl rfl (O_invoke [] [0,1,2,3] metPB rfl rfl hb rfl ?_)
 (rintro _ _ ⟨rfl, rfl⟩; refine ⟨_, fun _ => ⟨Ent.reN [0] rfl, Ent.refl _⟩, ?_⟩)
 refine JS.norm ?_
 refine S_o rfl rfl rfl rfl (O_call [2] [0,1,3] ha rfl rfl ?_)
 (rintro _ _ ⟨rfl, rfl⟩; refine ⟨_, fun _ => ⟨Ent.reN [1] rfl, Ent.refl _⟩, ?_⟩)
 refine JS.norm ?_
 refine Sq (Ent.re [1] rfl) rfl (Q_move rfl) ?_
 refine Sq (Ent.re [1] rfl) rfl (Q_extract (v := .int .i64 ((appL g (chB (.put k v))).2.1 : Int)) rfl rfl) ?_
 refine Sq (Ent.re [1] rfl) rfl (Q_extract (v := .int .i64 (appL g (chB (.put k v))).2.2) rfl rfl) ?_
 refine Sq (Ent.re [1] rfl) rfl (Q_assign rfl) ?_
 refine Sq (Ent.re [1] rfl) rfl (Q_assign rfl) ?_
 refine S_nil ?_
 refine seqQ_normal ?_
 refine J_seq ?_
 by_cases he : (appL g (chB (.put k v))).2.2 = 0
 ·skip
  refine J_region ?_
  refine Lq (Q_move rfl) ?_
  refine Lq ((Q_neq rfl rfl).as (v' := .bool false) (congrArg Value.bool (decide_eq_false (by omega)))) ?_
  refine Ln ?_
  refine J_condF rfl ?_
  refine J_skip ?_
  refine seqQ_normal ?_
  refine J_seq ?_
  refine DH [1] [0,1,2,3,4,5,6,7] (.quiet 0 (.quiet 1 (.quiet 2 (.quiet 3 (.quiet 4 (.quiet 5 (.quiet 6 (.quiet 7 (.loud 8 .done))))))))) Tryz.mixed ?_
  refine Sq (Ent.re [1] rfl) rfl (Q_move rfl) ?_
  refine Sq (Ent.re [1] rfl) rfl (Q_move rfl) ?_
  refine Sq (Ent.re [1] rfl) rfl (Q_nilCheck rfl) ?_
  refine Sq (Ent.re [1] rfl) rfl (Q_fa0 rfl) ?_
  refine Sq (Ent.re [1] rfl) rfl (Q_ld 0 rfl rfl rfl rfl) ?_
  refine Sq (Ent.re [1] rfl) rfl (Q_makeFunc (xs := [.tmp 20]) (ys := []) (vs := [chV (.put k v)]) (us := []) rfl rfl) ?_
  refine Sq (Ent.re [1] rfl) rfl (Q_nilMeth metPD rfl) ?_
  refine Sq (Ent.re [1] rfl) rfl (Q_move rfl) ?_
  refine S_o rfl rfl rfl rfl (O_invoke [2] [0,1,3] metPD rfl rfl (putD_ok E pt l k v (by omega)) rfl ?_)
  (rintro _ _ ⟨rfl, rfl⟩; refine ⟨_, fun _ => ⟨Ent.reN [2] rfl, Ent.refl _⟩, ?_⟩)
  refine JS.norm ?_
  refine S_nil ?_
  refine seqQ_normal ?_
  refine Sr ?_
  refine Lq (Q_assign rfl) ?_
  refine Ln ?_
  refine J_ret ?_
  rw [if_pos he]
  exact retQ_ret _ [kvC p pt pl ps saved, treeA pt (putL l k v), segA pl (appL g (chB (.put k v))).1] (.cons (RV_tmp rfl) .nil) ⟨by rw [he]; rfl, rfl⟩ (Ent.re [2,0,1,3] rfl)
 ·skip
  refine J_region ?_
  refine Lq (Q_move rfl) ?_
  refine Lq ((Q_neq rfl rfl).as (v' := .bool true) (congrArg Value.bool (decide_eq_true he))) ?_
  refine Ln ?_
  refine J_condT rfl ?_
  refine Sr ?_
  refine Lq (Q_move rfl) ?_
  refine Lq (Q_assign rfl) ?_
  refine Ln ?_
  refine J_ret ?_
  refine seqQ_ret ?_
  rw [if_neg he]
  exact retQ_ret _ [kvC p pt pl ps saved, treeA pt l, segA pl (appL g (chB (.put k v))).1] (.cons (RV_tmp rfl) .nil) ⟨rfl, rfl⟩ (Ent.re [1,2,0,3] rfl)
theorem chDel_ok (E : World) (p pt pl ps c : Nat) (saved : Int) (g : Lg) (l : List Kv) (k : Ky) (hkv : k.length ≤ 1000000) (hg : Good g c) (hc : c ≤ 1000000) (hl : l.length ≤ 1000000) : Does Tryz.prog E 40 [.pointer (some ⟨p, 0, none⟩), chV (.del k)] [kvC p pt pl ps saved, treeA pt l, segA pl g] fun r L => r = .int .i64 (appL g (chB (.del k))).2.2 ∧ L = [kvC p pt pl ps saved, treeA pt (if (appL g (chB (.del k))).2.2 = 0 then delL l k else l), segA pl (appL g (chB (.del k))).1] := by
 have hb := delB_ok E k hkv
 have ha := gappend_ok E pl c g hg (by omega) (chB (.del k))
 refine Does.of Tryz.func40 rfl Tryz.ntmps40 rfl rfl fun F => ?_
 refine J.norm ?_
 refine Sr ?_
 refine Lq (Q_assign rfl) ?_
 refine Ln ?_
 refine J_seq ?_
 refine J_seq ?_
 refine DH [0] [0,1,2,3,4,7,8,9,10,11] (.quiet 0 (.quiet 1 (.quiet 2 (.quiet 3 (.quiet 4 (.loud 5 (.loud 6 (.quiet 7 (.quiet 8 (.quiet 9 (.quiet 10 (.quiet 11 .done)))))))))))) Tryz.mixed ?_
 refine Sq (Ent.re [0] rfl) rfl (Q_move rfl) ?_
 refine Sq (Ent.re [0] rfl) rfl (Q_nilCheck rfl) ?_
 refine Sq (Ent.re [0] rfl) rfl (Q_fa0 rfl) ?_
 refine Sq (Ent.re [0] rfl) rfl (Q_ld 0 rfl rfl rfl rfl) ?_
 refine Sq (Ent.re [0] rfl) rfl (Q_move rfl) ?_
 refine S_o rfl rfl rfl rfl (O_invoke [] [0,1,2,3] metDB rfl rfl hb rfl ?_)
 (rintro _ _ ⟨rfl, rfl⟩; refine ⟨_, fun _ => ⟨Ent.reN [0] rfl, Ent.refl _⟩, ?_⟩)
 refine JS.norm ?_
 refine S_o rfl rfl rfl rfl (O_call [2] [0,1,3] ha rfl rfl ?_)
 (rintro _ _ ⟨rfl, rfl⟩; refine ⟨_, fun _ => ⟨Ent.reN [1] rfl, Ent.refl _⟩, ?_⟩)
 refine JS.norm ?_
 refine Sq (Ent.re [1] rfl) rfl (Q_move rfl) ?_
 refine Sq (Ent.re [1] rfl) rfl (Q_extract (v := .int .i64 ((appL g (chB (.del k))).2.1 : Int)) rfl rfl) ?_
 refine Sq (Ent.re [1] rfl) rfl (Q_extract (v := .int .i64 (appL g (chB (.del k))).2.2) rfl rfl) ?_
 refine Sq (Ent.re [1] rfl) rfl (Q_assign rfl) ?_
 refine Sq (Ent.re [1] rfl) rfl (Q_assign rfl) ?_
 refine S_nil ?_
 refine seqQ_normal ?_
 refine J_seq ?_
 by_cases he : (appL g (chB (.del k))).2.2 = 0
 ·skip
  refine J_region ?_
  refine Lq (Q_move rfl) ?_
  refine Lq ((Q_neq rfl rfl).as (v' := .bool false) (congrArg Value.bool (decide_eq_false (by omega)))) ?_
  refine Ln ?_
  refine J_condF rfl ?_
  refine J_skip ?_
  refine seqQ_normal ?_
  refine J_seq ?_
  refine DH [1] [0,1,2,3,4,5,6,7] (.quiet 0 (.quiet 1 (.quiet 2 (.quiet 3 (.quiet 4 (.quiet 5 (.quiet 6 (.quiet 7 (.loud 8 .done))))))))) Tryz.mixed ?_
  refine Sq (Ent.re [1] rfl) rfl (Q_move rfl) ?_
  refine Sq (Ent.re [1] rfl) rfl (Q_move rfl) ?_
  refine Sq (Ent.re [1] rfl) rfl (Q_nilCheck rfl) ?_
  refine Sq (Ent.re [1] rfl) rfl (Q_fa0 rfl) ?_
  refine Sq (Ent.re [1] rfl) rfl (Q_ld 0 rfl rfl rfl rfl) ?_
  refine Sq (Ent.re [1] rfl) rfl (Q_makeFunc (xs := [.tmp 20]) (ys := []) (vs := [chV (.del k)]) (us := []) rfl rfl) ?_
  refine Sq (Ent.re [1] rfl) rfl (Q_nilMeth metDD rfl) ?_
  refine Sq (Ent.re [1] rfl) rfl (Q_move rfl) ?_
  refine S_o rfl rfl rfl rfl (O_invoke [2] [0,1,3] metDD rfl rfl (delD_ok E pt l k (by omega)) rfl ?_)
  (rintro _ _ ⟨rfl, rfl⟩; refine ⟨_, fun _ => ⟨Ent.reN [2] rfl, Ent.refl _⟩, ?_⟩)
  refine JS.norm ?_
  refine S_nil ?_
  refine seqQ_normal ?_
  refine Sr ?_
  refine Lq (Q_assign rfl) ?_
  refine Ln ?_
  refine J_ret ?_
  rw [if_pos he]
  exact retQ_ret _ [kvC p pt pl ps saved, treeA pt (delL l k), segA pl (appL g (chB (.del k))).1] (.cons (RV_tmp rfl) .nil) ⟨by rw [he]; rfl, rfl⟩ (Ent.re [2,0,1,3] rfl)
 ·skip
  refine J_region ?_
  refine Lq (Q_move rfl) ?_
  refine Lq ((Q_neq rfl rfl).as (v' := .bool true) (congrArg Value.bool (decide_eq_true he))) ?_
  refine Ln ?_
  refine J_condT rfl ?_
  refine Sr ?_
  refine Lq (Q_move rfl) ?_
  refine Lq (Q_assign rfl) ?_
  refine Ln ?_
  refine J_ret ?_
  refine seqQ_ret ?_
  rw [if_neg he]
  exact retQ_ret _ [kvC p pt pl ps saved, treeA pt l, segA pl (appL g (chB (.del k))).1] (.cons (RV_tmp rfl) .nil) ⟨rfl, rfl⟩ (Ent.re [1,2,0,3] rfl)
end Go.Proofs
/- A store: read, synced, its numbers; a store that is none. -/
set_option autoImplicit false
namespace Go.Proofs
open Go.SL Go.Proofs.Bt
attribute [local irreducible] J JL QOp JOp seqQ blockQ loopQ retQ slc cel hex star pur stars Does RV Ent pAt scopeQ
attribute [local irreducible] nodeA nodeX treeA segA snapA
theorem kget_ok (E : World) (p pt pl ps : Nat) (saved : Int) (l : List Kv) (k : Ky) : Does Tryz.prog E 26 [.pointer (some ⟨p, 0, none⟩), str k] [kvC p pt pl ps saved, treeA pt l] fun r L => r = .tuple #[str (Bt.getL l k), .int .i64 (if hasL l k = true then 0 else 9)] ∧ L = [kvC p pt pl ps saved, treeA pt l] := by
 refine Does.of Tryz.func26 rfl Tryz.ntmps26 rfl rfl fun F => ?_
 refine J.norm ?_
 refine Sr ?_
 refine Lq (Q_assign rfl) ?_
 refine Lq (Q_assign rfl) ?_
 refine Ln ?_
 refine J_seq ?_
 refine Sr ?_
 refine Lq (Q_move rfl) ?_
 refine Lq ((Q_pneq rfl rfl).as (v' := .bool true) rfl) ?_
 refine Ln ?_
 refine J_condT rfl ?_
 refine Sr ?_
 refine Lq (Q_move rfl) ?_
 refine Lq (Q_nilCheck rfl) ?_
 refine Lq (Q_fa0 rfl) ?_
 refine Lq (Q_ld 0 rfl rfl rfl rfl) ?_
 refine Lq (Q_move rfl) ?_
 refine L_o rfl rfl rfl (O_call [1] [0,2] (tget_ok E pt l k) rfl rfl ?_)
 rintro _ _ ⟨rfl, rfl⟩
 refine JL.norm ?_
 refine Lq (Q_move rfl) ?_
 refine Lq (Q_extract (v := str (Bt.getL l k)) rfl rfl) ?_
 refine Lq (Q_extract (v := .bool (hasL l k)) rfl rfl) ?_
 refine Lq (Q_assign rfl) ?_
 refine Lq (Q_assign rfl) ?_
 refine Ln ?_
 refine J_seq ?_
 cases hh : hasL l k with
 | true =>
  refine J_region ?_
  refine Lq (Q_move rfl) ?_
  refine Ln ?_
  refine J_condT rfl ?_
  refine Sr ?_
  refine Lq (Q_move rfl) ?_
  refine Lq (Q_assign rfl) ?_
  refine Lq (Q_assign rfl) ?_
  refine Ln ?_
  refine J_ret ?_
  refine seqQ_ret ?_
  exact retQ_ret _ [kvC p pt pl ps saved, treeA pt l] (.cons (RV_tmp rfl) (.cons (RV_tmp rfl) .nil)) ⟨rfl, rfl⟩ (Ent.re [1,0,2] rfl)
 | false =>
  rw [Bt.get_not hh]
  refine J_region ?_
  refine Lq (Q_move rfl) ?_
  refine Ln ?_
  refine J_condF rfl ?_
  refine J_skip ?_
  refine seqQ_normal ?_
  refine Sr ?_
  refine Lq (Q_assign rfl) ?_
  refine Lq (Q_assign rfl) ?_
  refine Ln ?_
  refine J_ret ?_
  exact retQ_ret _ [kvC p pt pl ps saved, treeA pt l] (.cons (RV_tmp rfl) (.cons (RV_tmp rfl) .nil)) ⟨rfl, rfl⟩ (Ent.re [1,0,2] rfl)
theorem krange_ok (E : World) (p pt pl ps : Nat) (saved : Int) (l : List Kv) (f to : Ky) (most : Int) (hl : l.length ≤ 1000000) : Does Tryz.prog E 23 [.pointer (some ⟨p, 0, none⟩), str f, str to, .int .i64 most] [kvC p pt pl ps saved, treeA pt l] fun r L => ∃ S : SV, r = S.v ∧ L = [kvC p pt pl ps saved, treeA pt l, slc tKv true S (rngL l f to most)] := by
 refine Does.of Tryz.func23 rfl Tryz.ntmps23 rfl rfl fun F => ?_
 refine J.norm ?_
 refine Sr ?_
 refine Lq (Q_assign rfl) ?_
 refine Ln ?_
 refine J_seq ?_
 refine Sr ?_
 refine Lq (Q_move rfl) ?_
 refine Lq ((Q_peql rfl rfl).as (v' := .bool false) rfl) ?_
 refine Ln ?_
 refine J_condF rfl ?_
 refine J_skip ?_
 refine seqQ_normal ?_
 refine Sr ?_
 refine Lq (Q_move rfl) ?_
 refine Lq (Q_nilCheck rfl) ?_
 refine Lq (Q_fa0 rfl) ?_
 refine Lq (Q_ld 0 rfl rfl rfl rfl) ?_
 refine Lq (Q_move rfl) ?_
 refine Lq (Q_move rfl) ?_
 refine Lq (Q_move rfl) ?_
 refine L_o rfl rfl rfl (O_call [1] [0,2] (trange_ok E pt l f to most hl) rfl rfl ?_)
 rintro _ _ ⟨S, rfl, rfl⟩
 refine JL.norm ?_
 refine Lq (Q_assign rfl) ?_
 refine Ln ?_
 refine J_ret ?_
 exact retQ_ret _ [kvC p pt pl ps saved, treeA pt l, slc tKv true S (rngL l f to most)] (.cons (RV_tmp rfl) .nil) ⟨S, rfl, rfl⟩ (Ent.re [2,0,1,3] rfl)
theorem kseq_ok (E : World) (p pt pl ps c : Nat) (saved : Int) (g : Lg) (hg : Good g c) (hc : c ≤ 1000000) : Does Tryz.prog E 21 [.pointer (some ⟨p, 0, none⟩)] [kvC p pt pl ps saved, segA pl g] fun r L => r = .int .i64 (nextOf g.fs : Int) ∧ L = [kvC p pt pl ps saved, segA pl g] := by
 refine Does.of Tryz.func21 rfl Tryz.ntmps21 rfl rfl fun F => ?_
 refine J.norm ?_
 refine Sr ?_
 refine Lq (Q_assign rfl) ?_
 refine Ln ?_
 refine J_seq ?_
 refine Sr ?_
 refine Lq (Q_move rfl) ?_
 refine Lq ((Q_peql rfl rfl).as (v' := .bool false) rfl) ?_
 refine Ln ?_
 refine J_condF rfl ?_
 refine J_skip ?_
 refine seqQ_normal ?_
 refine Sr ?_
 refine Lq (Q_move rfl) ?_
 refine Lq (Q_nilCheck rfl) ?_
 refine Lq (Q_fa0 rfl) ?_
 refine Lq (Q_ld 0 rfl rfl rfl rfl) ?_
 refine L_o rfl rfl rfl (O_call [1] [0,2] (gnext_ok E pl c g hg hc) rfl rfl ?_)
 rintro _ _ ⟨rfl, rfl⟩
 refine JL.norm ?_
 refine Lq (Q_assign rfl) ?_
 refine Ln ?_
 refine J_ret ?_
 exact retQ_ret _ [kvC p pt pl ps saved, segA pl g] (.cons (RV_tmp rfl) .nil) ⟨rfl, rfl⟩ (Ent.re [1,0,2] rfl)
end Go.Proofs
