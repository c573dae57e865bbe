/- Part 28 of the texts below the row: Sham4, DkgP, Dkg1. -/
import Derived.Test.YtdggicfcpcjjlaaGreatDoorM1
import Derived.Test.YtdggicfcpcjjlaaGreatDoorM10
import Derived.Test.YtdggicfcpcjjlaaGreatDoorM12
import Derived.Test.YtdggicfcpcjjlaaGreatDoorM13
import Derived.Test.YtdggicfcpcjjlaaGreatDoorM27
/- Shares put together: the sum. -/
set_option autoImplicit false
namespace Go.Proofs
open Go.SL
theorem wgtL_get (l : List (Nat × W4)) (i : Nat) (h : i < l.length) (h' : i < (wgtL (l.map (·.1))).length) : sv ((wgtL (l.map (·.1)))[i]) = wgt (l.map (·.1)) l[i].1 := by
 simp only [wgtL, List.getElem_map, sv_ws]
theorem joinF_step (l : List (Nat × W4)) (i : Nat) (h : i < l.length) : (l.take (i + 1)).foldl (fun s p => s + wgt (l.map (·.1)) p.1 * sv p.2) 0 = (l.take i).foldl (fun s p => s + wgt (l.map (·.1)) p.1 * sv p.2) 0 + wgt (l.map (·.1)) l[i].1 * sv l[i].2 := foldl_take _ _ _ _ h
attribute [local irreducible] J JL QOp JOp seqQ blockQ loopQ retQ slc cel hex star pur stars Does RV Ent pAt scopeQ JR seqR endR JLI DoesY
section
variable (E : World)
theorem join1_ok (f : Bool) (T : SV) (wl : List W4) (hw : ∀ k ∈ wl, k.ok) (b7 i a : Nat) (v : W4) (hv : v.ok) (hi : i < wl.length) : Does Tryz.prog E 94 [.int .i64 (i : Int), shV a v, .pointer (some ⟨b7, 0, none⟩)] [cel b7 [T.v] 26, slc tNm f T wl] fun r L => r = (ws (sv wl[i] * sv v)).v ∧ L = [cel b7 [T.v] 26, slc tNm f T wl] := by
 have h := smulE E wl[i] v (hw _ (List.getElem_mem hi)) hv
 refine Does.of Tryz.func94 rfl Tryz.ntmps94 rfl rfl fun F => ?_
 refine Xb ?_
 refine L_o rfl rfl rfl (O_box rfl fun b4 => ?_)
 refine L_o rfl rfl rfl (O_alloc fun b5 => ?_)
 refine Xt ?_
 refine DH [2,3,1] [0,1,2,3,4,5] (.quiet 0 (.quiet 1 (.quiet 2 (.quiet 3 (.quiet 4 (.quiet 5 (.loud 6 (.loud 7 .done)))))))) Tryz.mixed ?_
 refine Sq (Ent.re [2,3,1] rfl) rfl (Q_ld 0 rfl rfl rfl rfl) ?_
 refine Sq (Ent.re [2,3,1] rfl) rfl (Q_move rfl) ?_
 refine Sq (Ent.re [2,3,1] rfl) rfl (Q_ixAt 1 i rfl rfl rfl rfl hi rfl) ?_
 refine Sq (Ent.re [2,3,1] rfl) rfl (Q_ldEAAt 1 i 0 (vs := (wl[i]).l) rfl rfl rfl rfl hi (Nat.le_refl 4) rfl) ?_
 refine Sq (Ent.re [2,3,1] rfl) rfl (Q_fa rfl rfl) ?_
 refine Sq (Ent.re [2,3,1] rfl) rfl (Q_ldA 2 rfl rfl rfl) ?_
 refine S_o rfl rfl rfl rfl (O_callP (h) rfl ⟨[], free_no (by kernel_rfl), ?_⟩)
 refine Xa ?_
 refine Xau ?_
 refine Xu ?_
 refine J_ret ?_
 exact retQ_ret _ [_, _] (.cons (RV_cell 0 rfl rfl rfl rfl) .nil) ⟨rfl, rfl⟩ (Ent.re [2,3,4] rfl)
theorem total_ok (f f2 : Bool) (S T : SV) (l : List (Nat × W4)) (hv : ∀ p ∈ l, p.2.ok) (hl : l.length ≤ 1000) (bw : Nat) : Does Tryz.prog E 93 [S.v, .func (.func 94) #[] #[.pointer (some ⟨bw, 0, none⟩)]] [slc tSh f S l, cel bw [T.v] 26, slc tNm f2 T (wgtL (l.map (·.1)))] fun r L => r = (ws (joinF l)).v ∧ L = [slc tSh f S l, cel bw [T.v] 26, slc tNm f2 T (wgtL (l.map (·.1)))] := by
 have hwok : ∀ k ∈ wgtL (l.map (·.1)), k.ok := by intro k hk; obtain ⟨j, _, rfl⟩ := List.mem_map.1 hk; exact ws_ok _
 have hwlen : (wgtL (l.map (·.1))).length = l.length := by unfold wgtL; simp
 refine Does.of Tryz.func93 rfl Tryz.ntmps93 rfl rfl fun F => ?_
 refine Xb ?_
 refine L_o rfl rfl rfl (O_alloc fun b4 => ?_)
 refine Ln ?_
 refine XW ?_
 refine L_o rfl rfl rfl (O_alloc fun b5 => ?_)
 refine XB ?_
 refine Xg ?_
 refine XbN ?_
 refine XJ ?_
 refine J_loop (fun i : Nat => i ≤ l.length) (fun i => [(0, S.v), (1, .func (.func 94) #[] #[.pointer (some ⟨bw, 0, none⟩)]), (4, .pointer (some ⟨b4, 0, none⟩)), (5, .pointer (some ⟨b5, 0, none⟩)), (9, S.v), (10, .int .i64 (l.length : Int)), (11, .int .i64 (i : Int))]) (fun i => [cel b5 (ws ((l.take i).foldl (fun s p => s + wgt (l.map (·.1)) p.1 * sv p.2) 0)).l 24, cel b4 [u64 0, u64 0, u64 0, u64 0] 24, slc tSh f S l, cel bw [T.v] 26, slc tNm f2 T (wgtL (l.map (·.1))), F]) (fun i => l.length - i) 0 (Nat.zero_le _) ⟨rfl, rfl, rfl, rfl, rfl, rfl, rfl, trivial⟩ (by rw [List.take_zero, List.foldl_nil, ws_0]; exact Ent.refl _) ?_
 intro i hi
 by_cases h : i < l.length
 ·have hwi : i < (wgtL (l.map (·.1))).length := by omega
  have hvi := hv _ (List.getElem_mem h)
  have e := joinF_step l i h
  have hj := join1_ok E f2 T _ hwok bw i l[i].1 l[i].2 hvi hwi
  have hwe : sv ((wgtL (l.map (·.1)))[i]) = wgt (l.map (·.1)) l[i].1 := wgtL_get l i h hwi
  rw [hwe] at hj
  have ha := saddF E ((l.take i).foldl (fun s p => s + wgt (l.map (·.1)) p.1 * sv p.2) 0) (wgt (l.map (·.1)) l[i].1 * sv l[i].2)
  rw [← e] at ha
  generalize (l.take i).foldl (fun s p => s + wgt (l.map (·.1)) p.1 * sv p.2) 0 = u at *
  refine XR ?_
  refine XfR ?_
  refine L_o rfl rfl rfl (O_alloc fun b7 => ?_)
  refine XaN ?_
  refine XG ?_
  refine DH [1,0] [0,1,2,3] (.quiet 0 (.quiet 1 (.quiet 2 (.quiet 3 (.loud 4 (.loud 5 (.loud 6 .done))))))) Tryz.mixed ?_
  refine Sq (Ent.re [1,0] rfl) rfl (Q_ldA 0 rfl rfl rfl) ?_
  refine Sq (Ent.re [1,0] rfl) rfl (Q_move rfl) ?_
  refine Sq (Ent.re [1,0] rfl) rfl (Q_move rfl) ?_
  refine Sq (Ent.re [1,0] rfl) rfl (Q_ldA 1 rfl rfl rfl) ?_
  refine S_o rfl rfl rfl rfl (O_dyn (vs := [.int .i64 (i : Int), shV l[i].1 l[i].2]) (fs := #[]) (cs := #[.pointer (some ⟨bw, 0, none⟩)]) [4,5] [0,1,2,3,6] rfl rfl rfl hj rfl ?_)
  (rintro _ _ ⟨rfl, rfl⟩; refine ⟨_, fun _ => ⟨Ent.reN [3,2] rfl, Ent.refl _⟩, ?_⟩)
  refine Xa ?_
  refine S_o rfl rfl rfl rfl (O_callP (ha) rfl ⟨[], free_no (by kernel_rfl), ?_⟩)
  refine Xa ?_
  refine Xe8 ?_
  refine Xaq ?_
  refine XaS ?_
  exact loopQ_normal (i + 1) (by omega) (by omega) ⟨rfl, rfl, rfl, rfl, rfl, rfl, rfl, trivial⟩ (Ent.re [3,4,5,0,1,6] rfl)
 ·obtain rfl : i = l.length := by omega
  rw [List.take_length]
  refine Xae ?_
  refine Xo ?_
  refine XaH ?_
  refine J_ret ?_
  exact retQ_ret _ [_, _, _] (.cons (RV_cell 1 rfl rfl rfl rfl) .nil) ⟨rfl, rfl⟩ (Ent.re [2,3,4,5] rfl)
theorem join_ok (f : Bool) (S : SV) (l : List (Nat × W4)) (hv : ∀ p ∈ l, p.2.ok) (hp : Plcs (l.map (·.1))) : Does Tryz.prog E 50 [S.v] [slc tSh f S l] fun r L => r = .tuple #[(ws (joinF l)).v, .int .i64 0] ∧ L = [slc tSh f S l] := by
 have hl : l.length ≤ 1000 := by have := hp.len; rw [List.length_map] at this; exact this
 refine Does.of Tryz.func50 rfl Tryz.ntmps50 rfl rfl fun F => ?_
 refine Xb ?_
 refine L_o rfl rfl rfl (O_alloc fun b2 => ?_)
 refine Xx ?_
 refine XX ?_
 refine L_o rfl rfl rfl (O_mk (τ := tN) l.length 0 rfl rfl rfl rfl rfl rfl (by omega) (by decide) (fun T => ?_))
 refine Xbf ?_
 refine XbN ?_
 refine XJ ?_
 rw [← fil_0 (fun p : Nat × W4 => p.1) 0 l]
 refine J_loop (fun i : Nat => i ≤ l.length) (fun i => [(0, S.v), (2, .pointer (some ⟨b2, 0, none⟩)), (4, T.v), (12, S.v), (13, .int .i64 (l.length : Int)), (14, .int .i64 (i : Int))]) (fun i => [slc tN true T (fil (fun p : Nat × W4 => p.1) 0 l i), cel b2 [u64 0, u64 0, u64 0, u64 0] 24, slc tSh f S l, F]) (fun i => l.length - i) 0 (Nat.zero_le _) ⟨rfl, rfl, rfl, rfl, rfl, rfl, trivial⟩ (Ent.refl _) ?_
 intro i hi
 have hfl := fil_len (fun p : Nat × W4 => p.1) 0 l i hi
 by_cases h : i < l.length
 ·have hs := fil_set (fun p : Nat × W4 => p.1) 0 l i h
  refine XR ?_
  refine XfR ?_
  refine L_o rfl rfl rfl (O_alloc fun b6 => ?_)
  refine XaN ?_
  refine XG ?_
  refine Xl ?_
  refine XaF ?_
  refine Lq (Q_ixAt 1 i rfl rfl rfl rfl (by rw [hfl]; exact h) rfl) ?_
  refine L_s rfl rfl (O_stE 1 i 0 l[i].1 rfl rfl rfl rfl rfl rfl (tN.one _) (by rw [hfl]; exact h) (Nat.le_refl 1) (by rw [List.take_zero, List.nil_append, List.drop_of_length_le (by rw [tN.len]; exact Nat.le_refl 1), List.append_nil]; rfl) ?_)
  refine Xas ?_
  rw [hs]
  refine Xh ?_
  refine Xbu ?_
  exact loopQ_normal (i + 1) (by omega) (by omega) ⟨rfl, rfl, rfl, rfl, rfl, rfl, trivial⟩ (Ent.re [1,2,3,4] rfl)
 ·obtain rfl : i = l.length := by omega
  rw [fil_end]
  have hw := weights_ok E true T (l.map (·.1)) hp
  refine Xae ?_
  refine Xg ?_
  refine L_o rfl rfl rfl (O_call [0] [1,2,3] hw rfl rfl ?_)
  rintro _ _ ⟨W, rfl, rfl⟩
  refine XH ?_
  refine L_o rfl rfl rfl (O_alloc fun b7 => ?_)
  refine L_s rfl rfl (O_st1 0 rfl rfl rfl rfl rfl ?_)
  refine Xbf ?_
  refine XbP ?_
  refine Xay ?_
  have ht := fun b7 => total_ok E f true S W l hv hl b7
  refine Xe ?_
  refine Lq (Q_makeFunc (xs := []) (ys := [.tmp 7]) (vs := []) (us := [.pointer (some ⟨b7, 0, none⟩)]) rfl rfl) ?_
  refine L_o rfl rfl rfl (O_call [4,0,1] [2,3,5] (ht b7) rfl rfl ?_)
  rintro _ _ ⟨rfl, rfl⟩
  refine Xc ?_
  refine L_s rfl rfl (O_stW 4 rfl rfl rfl rfl ?_)
  refine Xaa ?_
  exact retQ_ret _ [_] (.cons (RV_cell 4 rfl rfl rfl rfl) (.cons (RV_tmp rfl) .nil)) ⟨rfl, rfl⟩ (Ent.re [0,5] rfl)
end
end Go.Proofs
/- Deals: how they lie; rows of rows. -/
set_option autoImplicit false
namespace Go.SL
section
variable {α : Type} {L : List HProp}
theorem Ent.row_out (f : α → HProp) (l : List α) (i : Nat) (h : i < l.length) : Ent (stars (l.map f) :: L) (f l[i] :: stars ((l.eraseIdx i).map f) :: L) := by
 have e : l = l.take i ++ l[i] :: l.drop (i + 1) := by rw [← List.drop_eq_getElem_cons h, List.take_append_drop]
 have e2 : l.eraseIdx i = l.take i ++ l.drop (i + 1) := List.eraseIdx_eq_take_drop_succ ..
 rw [e2]
 conv => lhs; rw [e]
 exact Ent.mid_out f (l.take i) l[i] (l.drop (i + 1))
theorem Ent.row_in (f : α → HProp) (l : List α) (i : Nat) (h : i < l.length) (x : α) : Ent (f x :: stars ((l.eraseIdx i).map f) :: L) (stars ((l.set i x).map f) :: L) := by
 have e2 : l.eraseIdx i = l.take i ++ l.drop (i + 1) := List.eraseIdx_eq_take_drop_succ ..
 rw [e2, List.set_eq_take_append_cons_drop, if_pos h]
 exact Ent.mid_in f (l.take i) x (l.drop (i + 1))
/-- Many chunks that hold of nothing. -/
theorem Ent.stars_triv {R : List HProp} (h : ∀ (i : Nat) (c : HProp), R[i]? = some c → ∀ E g, c E g) : Ent L (stars R :: L) := fun E _ hs => hs.lay fun _ => ⟨fun _ _ => none, fun i c hi => h i c hi E _, (by intro i _ b o hx; cases hx), (by intro i j _ _ _ b; exact Or.inl rfl)⟩
/-- .. and back as it was. -/
theorem Ent.row_back (f : α → HProp) (l : List α) (i : Nat) (h : i < l.length) : Ent (f l[i] :: stars ((l.eraseIdx i).map f) :: L) (stars (l.map f) :: L) := by
 have := Ent.row_in (L := L) f l i h l[i]
 rwa [List.set_getElem_self] at this
/-- A row read where it lies. -/
theorem Sat.rdR {E w : World} {β : Type} {τ : Ty β} {full : Bool} {l : List (SV × List β)} (h : Sat E w L) (i : Nat) (hi : L[i]? = some (stars (l.map fun p => slc τ full p.1 p.2))) (k : Nat) (hk : k < l.length) : Rd τ w l[k].1 l[k].2 := by
 have hlt := (List.getElem?_eq_some_iff.1 hi).1
 have h1 := h.pick [i] (by simp only [okIdx, List.contains_nil, Bool.not_false, Bool.and_true]; exact Nat.blt_eq ▸ hlt)
 simp only [SL.pick, List.map_cons, List.map_nil, List.getD_eq_getElem?_getD, hi, Option.getD_some] at h1
 exact ((Ent.row_out (fun p : SV × List β => slc τ full p.1 p.2) l k hk) E w h1).rd 0 rfl
/-- One chunk alone. -/
theorem Sat.one {E w : World} {c : HProp} (h : Sat E w L) (i : Nat) (hi : L[i]? = some c) : Sat E w [c] := by
 have hlt := (List.getElem?_eq_some_iff.1 hi).1
 have h1 := h.pick [i] (by simp only [okIdx, List.contains_nil, Bool.not_false, Bool.and_true]; exact Nat.blt_eq ▸ hlt)
 simpa only [SL.pick, List.map_cons, List.map_nil, List.getD_eq_getElem?_getD, hi, Option.getD_some] using h1
end
end Go.SL
namespace Go.Proofs
open Go.SL
def tPs : Ty SV := ⟨46, 1, fun S => [S.v], fun _ => rfl, by decide, fun a v hv => by simp at hv; subst hv; rfl⟩
instance : TyI Tryz.prog tPs.e 1 (.slice none 0 0) 24 := inferInstanceAs (TyI Tryz.prog 46 1 (.slice none 0 0) 24)
instance : TyU Tryz.prog 41 (.slice tPs.e) := inferInstanceAs (TyU Tryz.prog 41 (.slice 46))
def tNs : Ty SV := ⟨26, 1, fun S => [S.v], fun _ => rfl, by decide, fun a v hv => by simp at hv; subst hv; rfl⟩
instance : TyI Tryz.prog tNs.e 1 (.slice none 0 0) 24 := inferInstanceAs (TyI Tryz.prog 26 1 (.slice none 0 0) 24)
instance : TyU Tryz.prog 38 (.slice tNs.e) := inferInstanceAs (TyU Tryz.prog 38 (.slice 26))
/-- A deal: of each epoch commitments; of each node its values. -/
structure Dl where
 C : SV
 c : List (SV × List Pw)
 V : SV
 v : List (SV × List W4)
abbrev dlL (C V : SV) : List Value := [C.v, V.v]
abbrev dlV (C V : SV) : Value := .agg (dlL C V).toArray
abbrev rowP (p : SV × List Pw) : HProp := slc tPw true p.1 p.2
abbrev rowN (p : SV × List W4) : HProp := slc tNm true p.1 p.2
def dlH (d : Dl) : List HProp := [slc tPs true d.C (d.c.map (·.1)), stars (d.c.map rowP), slc tNs true d.V (d.v.map (·.1)), stars (d.v.map rowN)]
def dlA (d : Dl) : HProp := stars (dlH d)
theorem Ent.dl_out (d : Dl) {L : List HProp} : Ent (dlA d :: L) (slc tPs true d.C (d.c.map (·.1)) :: stars (d.c.map rowP) :: slc tNs true d.V (d.v.map (·.1)) :: stars (d.v.map rowN) :: L) := Ent.spread (R := dlH d)
theorem Ent.dl_in (d : Dl) {L : List HProp} : Ent (slc tPs true d.C (d.c.map (·.1)) :: stars (d.c.map rowP) :: slc tNs true d.V (d.v.map (·.1)) :: stars (d.v.map rowN) :: L) (dlA d :: L) := Ent.gather (R := dlH d)
/-- One deal of many, to be read. -/
theorem _root_.Go.SL.Sat.dl {E w : World} {L : List HProp} {ds : List Dl} (h : Sat E w L) (i : Nat) (hi : L[i]? = some (stars (ds.map dlA))) (k : Nat) (hk : k < ds.length) : Sat E w [slc tPs true ds[k].C (ds[k].c.map (·.1)), stars (ds[k].c.map rowP), slc tNs true ds[k].V (ds[k].v.map (·.1)), stars (ds[k].v.map rowN)] := by
 have h1 := (Ent.row_out dlA ds k hk) E w (h.one i hi)
 have h2 := (Ent.dl_out ds[k]) E w h1
 exact h2.pick [0,1,2,3] rfl
/-- Deals in a slice: their headers. -/
def tDl : Ty (SV × SV) := ⟨43, 2, fun p => dlL p.1 p.2, fun _ => rfl, by decide, fun a v hv => by simp at hv; rcases hv with rfl | rfl <;> rfl⟩
instance : TyI Tryz.prog tDl.e 2 (.agg #[.slice none 0 0, .slice none 0 0]) 48 := inferInstanceAs (TyI Tryz.prog 43 2 (.agg #[.slice none 0 0, .slice none 0 0]) 48)
instance : TyU Tryz.prog 40 (.slice tDl.e) := inferInstanceAs (TyU Tryz.prog 40 (.slice 43))
abbrev hdD (d : Dl) : SV × SV := (d.C, d.V)
/-- Is there such a committee? -/
def quoB (n : Int) (t : Nat) : Bool := decide (3 * (t : Int) + 1 ≤ n) && decide (n ≤ 7)
def quo (n : Int) (t : Nat) : Int := if quoB n t then (n + t) / 2 + 1 else 0
/-- The values of a polynomial at a node. -/
noncomputable def valW (c : List W4) (a : Nat) : W4 := ws (evF (c.map sv) (plc a))
theorem valW_ok (c : List W4) (a : Nat) : (valW c a).ok := ws_ok _
/-- The deal of polynomials among n. -/
structure DlOf (d : Dl) (n : Nat) (l : List (List W4)) : Prop where
 c : d.c.map (·.2) = l.map cmtL
 v : d.v.map (·.2) = (List.range n).map fun i => l.map fun c => valW c (i + 1)
end Go.Proofs
/- Deals: what is checked of polynomials. -/
set_option autoImplicit false
namespace Go.Proofs
open Go.SL
attribute [local irreducible] J JL QOp JOp seqQ blockQ loopQ retQ slc cel hex star pur stars Does RV Ent pAt scopeQ JR seqR endR JLI DoesY
section
variable (E : World)
theorem quorum_ok (n : Int) (hn : -9223372036854775808 ≤ n ∧ n ≤ 9223372036854775807) (t : Nat) (ht : t ≤ 2) : Does Tryz.prog E 87 [.int .i64 n, .int .i64 (t : Int)] [] fun v L => v = .int .i64 (quo n t) ∧ L = [] := by
 unfold quo quoB
 refine Does.of Tryz.func87 rfl Tryz.ntmps87 rfl rfl fun F => ?_
 refine Xb ?_
 refine Xbj ?_
 by_cases h1 : 3 * (t : Int) + 1 ≤ n
 ·by_cases h2 : n ≤ 7
  ·rw [decide_eq_true h1, decide_eq_true h2]
   refine Xe ?_
   refine Xb2 ?_
   refine XbF ?_
   refine X7 ?_
   refine Xep ?_
   refine XaM ?_
   refine XbX ?_
   refine Xp ?_
   refine Xf ?_
   refine XbF ?_
   refine Xy ?_
   refine Xv ?_
   refine XaM ?_
   refine Lq (Q_quo rfl rfl (by decide) (IntWalk.i64_quo _ _ (by omega))) ?_
   refine Lq ((Q_add rfl rfl (IntWalk.i64_in _ (by omega))).as (v' := .int .i64 ((n + t) / 2 + 1)) (congrArg (Value.int .i64) (by omega))) ?_
   exact Xdh
  ·rw [decide_eq_true h1, decide_eq_false h2]
   refine Xe ?_
   refine Xb2 ?_
   refine XbF ?_
   refine X7 ?_
   refine Xep ?_
   refine XaM ?_
   refine XbX ?_
   refine Xp ?_
   refine Xf ?_
   refine XeK ?_
   refine Xm ?_
   exact XfO
 ·rw [decide_eq_false h1]
  refine Xe ?_
  refine Xb2 ?_
  refine XbF ?_
  refine X7 ?_
  refine Xep ?_
  refine XaM ?_
  refine Xdz ?_
  refine Xp ?_
  refine Xb0 ?_
  refine XaP ?_
  exact XfO
/-- What is checked, one after the other. -/
def rghtB (n : Int) (t : Nat) (l : Nat) : Nat → Bool
 | 0 => quoB n t
 | 1 => true
 | 2 => decide (l = t + 1)
 | _ => true
theorem quo_pos (n : Int) (t : Nat) : decide (quo n t > 0) = quoB n t := by
 unfold quo
 cases h : quoB n t with
 | false => rfl
 | true =>
  unfold quoB at h
  simp only [Bool.and_eq_true, decide_eq_true_eq] at h
  simp only [if_true, decide_eq_true_eq]
  omega
variable (f1 f2 : Bool) (S T : SV) (c : List W4)
theorem right0_ok (n : Int) (hn : -9223372036854775808 ≤ n ∧ n ≤ 9223372036854775807) (t : Nat) (ht : t ≤ 2) : Does Tryz.prog E 41 [.int .i64 0, .int .i64 n, .int .i64 (t : Int), S.v] [slc tNs f1 S [T], slc tNm f2 T c] fun v L => v = .bool (rghtB n t c.length 0) ∧ L = [slc tNs f1 S [T], slc tNm f2 T c] := by
 have hq := quorum_ok E n hn t ht
 have hp := quo_pos n t
 refine Does.of Tryz.func41 rfl Tryz.ntmps41 rfl rfl fun F => ?_
 refine XbB ?_
 refine XP ?_
 refine Sr ?_
 refine Xai ?_
 refine XaR ?_
 refine Xv ?_
 refine L_o rfl rfl rfl (O_callP (hq) rfl ?_)
 refine Lq ((Q_gtr rfl rfl).as (v' := .bool (quoB n t)) (congrArg Value.bool hp)) ?_
 refine Xq ?_
 refine XY ?_
 exact XdC
theorem right1_ok (n : Int) (t : Nat) : Does Tryz.prog E 41 [.int .i64 1, .int .i64 n, .int .i64 (t : Int), S.v] [slc tNs f1 S [T], slc tNm f2 T c] fun v L => v = .bool (rghtB n t c.length 1) ∧ L = [slc tNs f1 S [T], slc tNm f2 T c] := by
 refine Does.of Tryz.func41 rfl Tryz.ntmps41 rfl rfl fun F => ?_
 refine XbB ?_
 refine XP ?_
 refine Sr ?_
 refine Xbo ?_
 refine XF ?_
 refine Sr ?_
 refine Xai ?_
 refine XaR ?_
 refine Xg ?_
 refine XO ?_
 refine Lq ((Q_geq rfl rfl).as (v' := .bool true) rfl) ?_
 refine Xf ?_
 refine XO ?_
 refine Lq ((Q_leq rfl rfl).as (v' := .bool true) rfl) ?_
 refine XaD ?_
 refine Xq ?_
 refine XY ?_
 exact XdC
theorem right2_ok (n : Int) (t : Nat) (ht : t ≤ 2) (_ : c.length ≤ 1000) : Does Tryz.prog E 41 [.int .i64 2, .int .i64 n, .int .i64 (t : Int), S.v] [slc tNs f1 S [T], slc tNm f2 T c] fun v L => v = .bool (rghtB n t c.length 2) ∧ L = [slc tNs f1 S [T], slc tNm f2 T c] := by
 refine Does.of Tryz.func41 rfl Tryz.ntmps41 rfl rfl fun F => ?_
 refine XbB ?_
 refine XP ?_
 refine Sr ?_
 refine Xbo ?_
 refine XF ?_
 refine Sr ?_
 refine Xbo ?_
 refine XF ?_
 refine Xbe ?_
 refine Xw ?_
 refine Xba ?_
 refine J_loop (fun i : Nat => i ≤ 1 ∧ (i = 1 → rghtB n t c.length 2 = true)) (fun i => [(0, .int .i64 2), (2, .int .i64 (t : Int)), (30, S.v), (31, .int .i64 1), (32, .int .i64 (i : Int))]) (fun _ => [slc tNs f1 S [T], slc tNm f2 T c, F]) (fun i => 1 - i) 0 ⟨Nat.zero_le _, fun h => by cases h⟩ ⟨rfl, rfl, rfl, rfl, rfl, trivial⟩ (Ent.refl _) ?_
 rintro i ⟨hi, hr⟩
 by_cases h : i < 1
 ·obtain rfl : i = 0 := by omega
  refine Xdo ?_
  refine Sr ?_
  refine XdB ?_
  refine Lq (Q_ldEAt 0 0 0 (v := T.v) rfl rfl rfl rfl Nat.zero_lt_one (by decide) rfl) ?_
  refine Xbj ?_
  by_cases hbad : c.length = t + 1
  rotate_left
  ·rw [show rghtB n t c.length 2 = false from decide_eq_false hbad]
   refine Xe ?_
   refine Xai ?_
   refine Xf ?_
   refine XX ?_
   refine Xd ?_
   refine XaM ?_
   refine Lq ((Q_neq rfl rfl).as (v' := .bool true) (congrArg Value.bool (decide_eq_true ((by omega))))) ?_
   refine XaP ?_
   refine XbK ?_
   refine Xbc ?_
   refine XY ?_
   exact XdC
  refine Xe ?_
  refine Xai ?_
  refine Xf ?_
  refine XX ?_
  refine Xd ?_
  refine XaM ?_
  refine XcC ?_
  refine Xah ?_
  refine Xag ?_
  refine XX ?_
  refine XJ ?_
  refine J_loop (fun j : Nat => j ≤ c.length) (fun j => [(0, .int .i64 2), (2, .int .i64 (t : Int)), (30, S.v), (31, .int .i64 1), (32, .int .i64 0), (45, T.v), (46, .int .i64 (c.length : Int)), (47, .int .i64 (j : Int))]) (fun _ => [slc tNs f1 S [T], slc tNm f2 T c, F]) (fun j => c.length - j) 0 (Nat.zero_le _) ⟨rfl, rfl, rfl, rfl, rfl, rfl, rfl, rfl, trivial⟩ (Ent.refl _) ?_
  intro j hj
  by_cases hjl : j < c.length
  ·refine Xaz ?_
   refine XfU ?_
   refine L_o rfl rfl rfl (O_alloc fun b12 => ?_)
   refine XG ?_
   refine Xg ?_
   refine Xbo ?_
   refine Xcv ?_
   refine Xp ?_
   refine XaI ?_
   refine X8 ?_
   refine XbG ?_
   exact Xfp
  ·refine Xct ?_
   refine XbA ?_
   refine X8 ?_
   refine Xcg ?_
   exact loopQ_normal 1 ⟨Nat.le_refl _, fun _ => decide_eq_true hbad⟩ (by decide) ⟨rfl, rfl, rfl, rfl, rfl, trivial⟩ (Ent.refl _)
 ·obtain rfl : i = 1 := by omega
  rw [hr rfl]
  refine Xbk ?_
  exact Xde
theorem right3_ok (n : Int) (t : Nat) (_ : t ≤ 2) (hc : ∀ k ∈ c, k.ok ∧ k.n < Nt.pQ) (hl : c.length ≤ 1000) : Does Tryz.prog E 41 [.int .i64 3, .int .i64 n, .int .i64 (t : Int), S.v] [slc tNs f1 S [T], slc tNm f2 T c] fun v L => v = .bool (rghtB n t c.length 3) ∧ L = [slc tNs f1 S [T], slc tNm f2 T c] := by
 refine Does.of Tryz.func41 rfl Tryz.ntmps41 rfl rfl fun F => ?_
 refine XbB ?_
 refine XP ?_
 refine Sr ?_
 refine Xbo ?_
 refine XF ?_
 refine Sr ?_
 refine Xbo ?_
 refine XF ?_
 refine Xbe ?_
 refine Xw ?_
 refine Xba ?_
 refine J_loop (fun i : Nat => i ≤ 1 ∧ (i = 1 → rghtB n t c.length 3 = true)) (fun i => [(0, .int .i64 3), (2, .int .i64 (t : Int)), (30, S.v), (31, .int .i64 1), (32, .int .i64 (i : Int))]) (fun _ => [slc tNs f1 S [T], slc tNm f2 T c, F]) (fun i => 1 - i) 0 ⟨Nat.zero_le _, fun h => by cases h⟩ ⟨rfl, rfl, rfl, rfl, rfl, trivial⟩ (Ent.refl _) ?_
 rintro i ⟨hi, hr⟩
 by_cases h : i < 1
 ·obtain rfl : i = 0 := by omega
  refine Xdo ?_
  refine Sr ?_
  refine XdB ?_
  refine Lq (Q_ldEAt 0 0 0 (v := T.v) rfl rfl rfl rfl Nat.zero_lt_one (by decide) rfl) ?_
  refine XA ?_
  refine Xbo ?_
  refine Xcf ?_
  refine Xan ?_
  refine Xg ?_
  refine XX ?_
  refine XJ ?_
  refine J_loop (fun j : Nat => j ≤ c.length) (fun j => [(0, .int .i64 3), (2, .int .i64 (t : Int)), (30, S.v), (31, .int .i64 1), (32, .int .i64 0), (45, T.v), (46, .int .i64 (c.length : Int)), (47, .int .i64 (j : Int))]) (fun _ => [slc tNs f1 S [T], slc tNm f2 T c, F]) (fun j => c.length - j) 0 (Nat.zero_le _) ⟨rfl, rfl, rfl, rfl, rfl, rfl, rfl, rfl, trivial⟩ (Ent.refl _) ?_
  intro j hj
  by_cases hjl : j < c.length
  ·refine Xaz ?_
   refine XfU ?_
   refine L_o rfl rfl rfl (O_alloc fun b12 => ?_)
   refine XB ?_
   have hkj := hc _ (List.getElem_mem hjl)
   have hva := svalid_ok E c[j] hkj.1
   rw [decide_eq_true hkj.2] at hva
   refine Xe ?_
   refine Xai ?_
   refine Xd ?_
   refine X1 ?_
   refine L_o rfl rfl rfl (O_callP (hva) rfl ?_)
   refine XbO ?_
   refine Xah ?_
   refine XaI ?_
   refine X8 ?_
   refine XbG ?_
   exact Xfp
  ·refine Xct ?_
   refine XbA ?_
   refine X8 ?_
   refine Xcg ?_
   exact loopQ_normal 1 ⟨Nat.le_refl _, fun _ => rfl⟩ (by decide) ⟨rfl, rfl, rfl, rfl, rfl, trivial⟩ (Ent.refl _)
 ·obtain rfl : i = 1 := by omega
  rw [hr rfl]
  refine Xbk ?_
  exact Xde
end
end Go.Proofs
