/- Part 11 of the texts below the row: Tree6, Tree6b, Sl19, Sl20. -/
import Derived.MapKept
import Derived.Test.YtkglhackgghcfaaGreatM10
/- A pair moved from one child to its neighbour. -/
set_option autoImplicit false
namespace Go.Proofs.Bt
open Go.SL
theorem snoc_of {α : Type} {l : List α} (h : 1 ≤ l.length) : ∃ X g, l = X ++ [g] := by
  obtain ⟨A, e, B, rfl, hA⟩ := split_at (l := l) (i := l.length - 1) (by omega)
  have : B = [] := List.eq_nil_of_length_eq_zero (by simp only [List.length_append, List.length_cons] at h hA; omega)
  subst this
  exact ⟨A, e, rfl⟩
theorem cons_of {α : Type} {l : List α} (h : 1 ≤ l.length) : ∃ g X, l = g :: X := by
  cases l with
  | nil => simp at h
  | cons g X => exact ⟨g, X, rfl⟩
theorem pL_same {d : Nat} (A B : List (Nat × T d)) (x y : Nat × T d) (a b : T d) : pL (A ++ x :: y :: B) = pL (A ++ (x.1, a) :: (y.1, b) :: B) := by simp [pL]
theorem Ent.two_back2 {d : Nat} {A B : List (Nat × T d)} {x y : Nat × T d} {R : SV} {P : List (Option Nat)} {X Y F : HProp} (hP : P = pL (A ++ x :: y :: B)) : Ent [nodeA d x.1 x.2, nodeA d y.1 y.2, stars ((A ++ B).map (ndE d)), X, Y, slc tNd true R P, F] ([X, Y, slc tNd true R (pL (A ++ x :: y :: B)), stars ((A ++ x :: y :: B).map (ndE d))] ++ [F]) := by
  subst hP
  exact Ent.two_back
attribute [local irreducible] J JL QOp JOp seqQ blockQ loopQ retQ slc cel hex star pur stars Does RV Ent pAt scopeQ
attribute [local irreducible] nodeA nodeX treeA
theorem fromLeft_ok (E : World) (d p : Nat) (S R : SV) (K1 K2 : List Kv) (k : Kv) (A B : List (Nat × T d)) (x y : Nat × T d) (hA : K1.length = A.length) (hx : wf 4 d x.2) (hy : wf 3 d y.2) (hx6 : (tks d y.2).length ≤ 6) (hK : K1.length + K2.length ≤ 1000) (hB : A.length + B.length ≤ 1000) :
    Does Tryz.prog E 121 [.pointer (some ⟨p, 0, none⟩), .int .i64 ((A.length + 1 : Nat) : Int)] [ndC p S R, slc tKv true S (K1 ++ k :: K2), slc tNd true R (pL (A ++ x :: y :: B)), stars ((A ++ x :: y :: B).map (ndE d))]
    fun v L => v = .tuple #[] ∧ ∃ (k' : Kv) (cx cy : T d) (mid : List Kv), flat d x.2 = flat d cx ++ k' :: mid ∧ flat d cy = mid ++ k :: flat d y.2 ∧ wf 3 d cx ∧ wf 4 d cy ∧ L = [ndC p S R, slc tKv true S (K1 ++ k' :: K2), slc tNd true R (pL (A ++ (x.1, cx) :: (y.1, cy) :: B)), stars ((A ++ (x.1, cx) :: (y.1, cy) :: B).map (ndE d))] := by
  obtain ⟨qx, cx⟩ := x
  obtain ⟨qy, cy⟩ := y
  dsimp only at hx hy hx6 ⊢
  have hKl : A.length < (K1 ++ k :: K2).length := by simp; omega
  have hKg : (K1 ++ k :: K2)[A.length] = k := get_mid hA hKl
  have hP1 : A.length < (pL (A ++ (qx, cx) :: (qy, cy) :: B)).length := by rw [pL_len]; simp
  have hP2 : A.length + 1 < (pL (A ++ (qx, cx) :: (qy, cy) :: B)).length := by rw [pL_len]; simp
  have g1 := pL_get1 A B (qx, cx) (qy, cy) hP1
  have g2 := pL_get2 A B (qx, cx) (qy, cy) hP2
  have hset : ∀ g : Kv, (K1 ++ k :: K2).set A.length g = K1 ++ g :: K2 := fun g => set_mid hA
  refine Does.of Tryz.func121 rfl Tryz.ntmps121 rfl rfl fun F => ?_
  refine J.norm ?_
  refine J_seq ?_
  refine J_drawH [0,2] [0, 1, 2, 3, 4, 5, 6, 7, 8, 9, 10, 11, 12, 13, 14, 15, 16] (.quiet 0 (.quiet 1 (.quiet 2 (.quiet 3 (.quiet 4 (.quiet 5 (.quiet 6 (.quiet 7 (.quiet 8 (.quiet 9 (.quiet 10 (.quiet 11 (.quiet 12 (.quiet 13 (.quiet 14 (.quiet 15 (.quiet 16 .done))))))))))))))))) Tryz.mixed (by kernel_rfl) (by kernel_rfl) (by repeat (first | exact retQ_noP | refine seqQ_noP ?_ | refine blockQ_noP ?_ | refine loopQ_noP ?_ | refine scopeQ_noP ?_ | (intro _ _ _ h; cases h.1))) ?_
  refine S_q (Ent.re [0,2] rfl) rfl (Q_move rfl) rfl rfl rfl ?_
  refine S_q (Ent.re [0,2] rfl) rfl (Q_nilCheck rfl) rfl rfl rfl ?_
  refine S_q (Ent.re [0,2] rfl) rfl (Q_fa0 rfl) rfl rfl rfl ?_
  refine S_q (Ent.re [0,2] rfl) rfl (Q_ld 0 rfl rfl rfl rfl) rfl rfl rfl ?_
  refine S_q (Ent.re [0,2] rfl) rfl (Q_move rfl) rfl rfl rfl ?_
  refine S_q (Ent.re [0,2] rfl) rfl (Q_sub (r := (A.length : Int)) rfl rfl (by rw [show ((A.length + 1 : Nat) : Int) - 1 = (A.length : Int) by omega]; exact IntWalk.i64_in _ (by omega))) rfl rfl rfl ?_
  refine S_q (Ent.re [0,2] rfl) rfl (Q_ixAt 1 A.length rfl rfl rfl rfl hP1 rfl) rfl rfl rfl ?_
  refine S_q (Ent.re [0,2] rfl) rfl (Q_ldEAt 1 A.length 0 (v := .pointer (some ⟨qx, 0, none⟩)) rfl rfl rfl rfl hP1 (by decide) (by rw [g1]; rfl)) rfl rfl rfl ?_
  refine S_q (Ent.re [0,2] rfl) rfl (Q_move rfl) rfl rfl rfl ?_
  refine S_q (Ent.re [0,2] rfl) rfl (Q_nilCheck rfl) rfl rfl rfl ?_
  refine S_q (Ent.re [0,2] rfl) rfl (Q_fa0 rfl) rfl rfl rfl ?_
  refine S_q (Ent.re [0,2] rfl) rfl (Q_ld 0 rfl rfl rfl rfl) rfl rfl rfl ?_
  refine S_q (Ent.re [0,2] rfl) rfl (Q_move rfl) rfl rfl rfl ?_
  refine S_q (Ent.re [0,2] rfl) rfl (Q_ixAt 1 (A.length + 1) rfl rfl rfl rfl hP2 rfl) rfl rfl rfl ?_
  refine S_q (Ent.re [0,2] rfl) rfl (Q_ldEAt 1 (A.length + 1) 0 (v := .pointer (some ⟨qy, 0, none⟩)) rfl rfl rfl rfl hP2 (by decide) (by rw [g2]; rfl)) rfl rfl rfl ?_
  refine S_q (Ent.re [0,2] rfl) rfl (Q_assign rfl) rfl rfl rfl ?_
  refine S_q (Ent.re [0,2] rfl) rfl (Q_assign rfl) rfl rfl rfl ?_
  refine S_nil ?_
  refine seqQ_normal ?_
  refine J_seq ?_
  refine J.ent Ent.two_out ?_
  cases d with
  | zero =>
    refine J.leaf fun Sx Rx => J.ent (Ent.re [3, 0, 1, 2, 4, 5, 6, 7, 8] rfl) (J.leaf fun Sy Ry => ?_)
    dsimp only
    have h4 : 4 ≤ (tks 0 cx).length := (wf_ks hx).1
    have h7 : (tks 0 cx).length ≤ 7 := (wf_ks hx).2
    have h3 : 3 ≤ (tks 0 cy).length := (wf_ks hy).1
    have h6 : (tks 0 cy).length ≤ 6 := hx6
    have ex : flat 0 cx = tks 0 cx := rfl
    have ey : flat 0 cy = tks 0 cy := rfl
    rw [ex, ey]
    clear ex ey
    generalize tks 0 cx = X at *
    generalize tks 0 cy = Y at *
    obtain ⟨Xi, g, rfl⟩ := snoc_of (l := X) (by omega)
    simp only [List.length_append, List.length_singleton] at h4 h7
    have hxl : (Xi ++ [g]).length = Xi.length + 1 := by simp
    have hgl : Xi.length < (Xi ++ [g]).length := by omega
    have hgg : (Xi ++ [g])[Xi.length] = g := get_mid rfl hgl
    have hle : Xi.length ≤ (Xi ++ [g]).length := by omega
    have et : (Xi ++ [g]).take Xi.length = Xi := List.take_left
    refine J_region ?_
    refine L_q (Q_move rfl) rfl rfl rfl ?_
    refine L_q (Q_nilCheck rfl) rfl rfl rfl ?_
    refine L_q (Q_fa0 rfl) rfl rfl rfl ?_
    refine L_q (Q_ld 3 rfl rfl rfl rfl) rfl rfl rfl ?_
    refine L_q (Q_lenAt 4 rfl rfl) rfl rfl rfl ?_
    refine L_q (Q_sub (r := (Xi.length : Int)) rfl rfl (by rw [show ((Xi ++ [g]).length : Int) - 1 = (Xi.length : Int) by omega]; exact IntWalk.i64_in _ (by omega))) rfl rfl rfl ?_
    refine L_q (Q_assign rfl) rfl rfl rfl ?_
    refine JL_nil ?_
    refine seqQ_normal ?_
    refine J_seq ?_
    refine J_drawH [0,7,8] [0, 1, 2, 3, 4, 5, 6, 7, 8, 9, 10, 11, 12, 15, 16] (.quiet 0 (.quiet 1 (.quiet 2 (.quiet 3 (.quiet 4 (.quiet 5 (.quiet 6 (.quiet 7 (.quiet 8 (.quiet 9 (.quiet 10 (.quiet 11 (.quiet 12 (.loud 13 (.loud 14 (.quiet 15 (.quiet 16 (.loud 17 .done)))))))))))))))))) Tryz.mixed (by kernel_rfl) (by kernel_rfl) (by repeat (first | exact retQ_noP | refine seqQ_noP ?_ | refine blockQ_noP ?_ | refine loopQ_noP ?_ | refine scopeQ_noP ?_ | (intro _ _ _ h; cases h.1))) ?_
    refine S_q (Ent.re [0,7,8] rfl) rfl (Q_move rfl) rfl rfl rfl ?_
    refine S_q (Ent.re [0,7,8] rfl) rfl (Q_move rfl) rfl rfl rfl ?_
    refine S_q (Ent.re [0,7,8] rfl) rfl (Q_nilCheck rfl) rfl rfl rfl ?_
    refine S_q (Ent.re [0,7,8] rfl) rfl (Q_fa0 rfl) rfl rfl rfl ?_
    refine S_q (Ent.re [0,7,8] rfl) rfl (Q_ld 0 rfl rfl rfl rfl) rfl rfl rfl ?_
    refine S_q (Ent.re [0,7,8] rfl) rfl (Q_move rfl) rfl rfl rfl ?_
    refine S_q (Ent.re [0,7,8] rfl) rfl (Q_nilCheck rfl) rfl rfl rfl ?_
    refine S_q (Ent.re [0,7,8] rfl) rfl (Q_fa0 rfl) rfl rfl rfl ?_
    refine S_q (Ent.re [0,7,8] rfl) rfl (Q_ld 1 rfl rfl rfl rfl) rfl rfl rfl ?_
    refine S_q (Ent.re [0,7,8] rfl) rfl (Q_move rfl) rfl rfl rfl ?_
    refine S_q (Ent.re [0,7,8] rfl) rfl (Q_sub (r := (A.length : Int)) rfl rfl (by rw [show ((A.length + 1 : Nat) : Int) - 1 = (A.length : Int) by omega]; exact IntWalk.i64_in _ (by omega))) rfl rfl rfl ?_
    refine S_q (Ent.re [0,7,8] rfl) rfl (Q_ixAt 2 A.length rfl rfl rfl rfl hKl rfl) rfl rfl rfl ?_
    refine S_q (Ent.re [0,7,8] rfl) rfl (Q_ldEAAt 2 A.length 0 (vs := kvV k) rfl rfl rfl rfl hKl (by decide) (by rw [hKg]; rfl)) rfl rfl rfl ?_
    refine S_o rfl rfl rfl rfl (O_litN (τ := tKv) (m := 1) (sz := 2) [k] rfl rfl rfl rfl rfl rfl (by decide) (by decide) (fun U => ⟨_, fun _ => ⟨Ent.reN [1,8,9] rfl, Ent.refl _⟩, ?_⟩))
    refine JS.norm ?_
    refine S_o rfl rfl rfl rfl (O_call [2,0] [1,3,4,5,6,7,8,9,10,11] (kvins_ok E Sy U Y k 0 (Nat.zero_le _) (by omega)) rfl rfl ?_)
    (rintro _ _ ⟨Sy2, rfl, rfl⟩; refine ⟨_, fun _ => ⟨Ent.reN [1,7,8] rfl, Ent.refl _⟩, ?_⟩)
    refine JS.norm ?_
    refine S_q (Ent.re [1,7,8] rfl) rfl (Q_nilCheck rfl) rfl rfl rfl ?_
    refine S_q (Ent.re [1,7,8] rfl) rfl (Q_fa0 rfl) rfl rfl rfl ?_
    refine S_s rfl rfl rfl (O_st1 1 rfl rfl rfl rfl rfl ⟨[], free_no (by kernel_rfl), ?_⟩)
    refine JS.norm ?_
    refine S_nil ?_
    refine seqQ_normal ?_
    refine J_seq ?_
    rw [List.take_zero, List.drop_zero, List.nil_append]
    refine J_drawH [7,3,4,8] [0, 1, 2, 3, 4, 5, 6, 7, 8, 9, 10, 11, 12, 13] (.quiet 0 (.quiet 1 (.quiet 2 (.quiet 3 (.quiet 4 (.quiet 5 (.quiet 6 (.quiet 7 (.quiet 8 (.quiet 9 (.quiet 10 (.quiet 11 (.quiet 12 (.quiet 13 (.loud 14 .done))))))))))))))) Tryz.mixed (by kernel_rfl) (by kernel_rfl) (by repeat (first | exact retQ_noP | refine seqQ_noP ?_ | refine blockQ_noP ?_ | refine loopQ_noP ?_ | refine scopeQ_noP ?_ | (intro _ _ _ h; cases h.1))) ?_
    refine S_q (Ent.re [7,3,4,8] rfl) rfl (Q_move rfl) rfl rfl rfl ?_
    refine S_q (Ent.re [7,3,4,8] rfl) rfl (Q_nilCheck rfl) rfl rfl rfl ?_
    refine S_q (Ent.re [7,3,4,8] rfl) rfl (Q_fa0 rfl) rfl rfl rfl ?_
    refine S_q (Ent.re [7,3,4,8] rfl) rfl (Q_ld 0 rfl rfl rfl rfl) rfl rfl rfl ?_
    refine S_q (Ent.re [7,3,4,8] rfl) rfl (Q_move rfl) rfl rfl rfl ?_
    refine S_q (Ent.re [7,3,4,8] rfl) rfl (Q_sub (r := (A.length : Int)) rfl rfl (by rw [show ((A.length + 1 : Nat) : Int) - 1 = (A.length : Int) by omega]; exact IntWalk.i64_in _ (by omega))) rfl rfl rfl ?_
    refine S_q (Ent.re [7,3,4,8] rfl) rfl (Q_move rfl) rfl rfl rfl ?_
    refine S_q (Ent.re [7,3,4,8] rfl) rfl (Q_nilCheck rfl) rfl rfl rfl ?_
    refine S_q (Ent.re [7,3,4,8] rfl) rfl (Q_fa0 rfl) rfl rfl rfl ?_
    refine S_q (Ent.re [7,3,4,8] rfl) rfl (Q_ld 1 rfl rfl rfl rfl) rfl rfl rfl ?_
    refine S_q (Ent.re [7,3,4,8] rfl) rfl (Q_move rfl) rfl rfl rfl ?_
    refine S_q (Ent.re [7,3,4,8] rfl) rfl (Q_ixAt 2 Xi.length rfl rfl rfl rfl hgl rfl) rfl rfl rfl ?_
    refine S_q (Ent.re [7,3,4,8] rfl) rfl (Q_ldEAAt 2 Xi.length 0 (vs := kvV g) rfl rfl rfl rfl hgl (by decide) (by rw [hgg]; rfl)) rfl rfl rfl ?_
    refine S_q (Ent.re [7,3,4,8] rfl) rfl (Q_ixAt 3 A.length rfl rfl rfl rfl hKl rfl) rfl rfl rfl ?_
    refine S_s rfl rfl rfl (O_stE 8 A.length 0 g rfl rfl rfl rfl rfl rfl (by intro c hc; simp [Value.cells] at hc; rcases hc with rfl | rfl <;> rfl) hKl (Nat.le_refl 2) (by simp [tKv, Value.cells]) ⟨[], free_no (by kernel_rfl), ?_⟩)
    refine JS.norm ?_
    refine S_nil ?_
    refine seqQ_normal ?_
    refine J_seq ?_
    rw [hset]
    refine J_region ?_
    refine L_q (Q_move rfl) rfl rfl rfl ?_
    refine L_q (Q_move rfl) rfl rfl rfl ?_
    refine L_q (Q_nilCheck rfl) rfl rfl rfl ?_
    refine L_q (Q_fa0 rfl) rfl rfl rfl ?_
    refine L_q (Q_ld 3 rfl rfl rfl rfl) rfl rfl rfl ?_
    refine L_q (Q_move rfl) rfl rfl rfl ?_
    refine L_q (Q_slH (τ := tKv) Xi.length (fun w h => h.rd 4 rfl) rfl rfl rfl hle rfl) rfl rfl rfl ?_
    refine L_q (Q_nilCheck rfl) rfl rfl rfl ?_
    refine L_q (Q_fa0 rfl) rfl rfl rfl ?_
    refine L_s rfl rfl (O_st1 3 rfl rfl rfl rfl rfl ?_)
    refine JL.norm ?_
    refine JL_nil ?_
    refine seqQ_normal ?_
    refine J_seq ?_
    refine J.ent (Ent.begin (τ := tKv) 4 rfl Xi.length hle) ?_
    rw [et]
    simp only [List.set_cons_succ, List.set_cons_zero]
    refine J_region ?_
    refine L_q (Q_move rfl) rfl rfl rfl ?_
    refine L_o rfl rfl rfl (O_call [3,5] [0,1,2,4,6,7,8,9,10] (leaf_ok E qx _ Rx []) rfl rfl ?_)
    rintro _ _ ⟨rfl, rfl⟩
    refine JL.norm ?_
    refine L_q ((Q_not rfl).as (v' := .bool false) rfl) rfl rfl rfl ?_
    refine JL_nil ?_
    refine seqQ_normal ?_
    refine J_condF rfl ?_
    refine J_skip ?_
    refine retQ_normal [] _ .nil ⟨rfl, g, (Xi : List Kv), (k :: Y : List Kv), [], by simp [flat], by simp [flat], ⟨by show 3 ≤ Xi.length; omega, by show Xi.length ≤ 7; omega⟩, ⟨by show 4 ≤ (k :: Y).length; simp; omega, by show (k :: Y).length ≤ 7; simp; omega⟩, rfl⟩ ?_
    refine (Ent.re [0, 5, 1, 3, 2, 4, 6, 7, 8, 9, 10] rfl).trans ?_
    refine (Ent.leafA (t := (Xi : List Kv))).trans ?_
    refine (Ent.re [1, 2, 3, 0, 4, 5, 6, 7, 8] rfl).trans ?_
    refine (Ent.leafA (t := (k :: Y : List Kv))).trans ?_
    exact (Ent.re [1, 0, 2, 3, 4, 5, 6] rfl).trans (Ent.two_back2 (d := 0) (x := (qx, (Xi : List Kv))) (y := (qy, (k :: Y : List Kv))) (pL_same (d := 0) A B (qx, cx) (qy, cy) _ _))
  | succ d =>
    obtain ⟨kx, ccx⟩ := cx
    obtain ⟨ky, ccy⟩ := cy
    refine J.inner fun Sx Rx exs hexs => J.ent (Ent.re [4, 0, 1, 2, 3, 5, 6, 7, 8, 9] rfl) (J.inner fun Sy Ry eys heys => ?_)
    obtain ⟨h4, h7, hcx, hwx⟩ := hx
    obtain ⟨h3, _, hcy, hwy⟩ := hy
    have h6 : ky.length ≤ 6 := hx6
    dsimp only at h4 h7 h3 hcx hcy hwx hwy hexs heys ⊢
    obtain ⟨Xi, g, rfl⟩ := snoc_of (l := kx) (by omega)
    have hxl : (Xi ++ [g]).length = Xi.length + 1 := by simp
    obtain ⟨es, eg, rfl⟩ := snoc_of (l := exs) (by rw [← hexs, List.length_map] at hcx; omega)
    subst hexs heys
    have hel : es.length = Xi.length + 1 := by simp at hcx; omega
    have hey : eys.length = ky.length + 1 := by simpa using hcy
    have hgl : Xi.length < (Xi ++ [g]).length := by omega
    have hgg : (Xi ++ [g])[Xi.length] = g := get_mid rfl hgl
    have hle : Xi.length ≤ (Xi ++ [g]).length := by omega
    have et : (Xi ++ [g]).take Xi.length = Xi := List.take_left
    have hpx : (pL (es ++ [eg])).length = Xi.length + 2 := by rw [pL_len]; simp; omega
    have hpg : Xi.length + 1 < (pL (es ++ [eg])).length := by omega
    have hpgg : (pL (es ++ [eg]))[Xi.length + 1] = some eg.1 := by simp only [← hel]; exact mid_get _ es [] eg _
    have hpt : (pL (es ++ [eg])).take (Xi.length + 1) = pL es := by rw [← hel, show pL (es ++ [eg]) = pL es ++ [some eg.1] from by simp [pL]]; simp [pL]
    have hlf := leaf_ok E qx (Sx.sub tKv.sz 0 Xi.length) Rx (pL (es ++ [eg]))
    rw [show decide (((pL (es ++ [eg])).length : Int) = 0) = false from decide_eq_false (by omega)] at hlf
    refine J_region ?_
    refine L_q (Q_move rfl) rfl rfl rfl ?_
    refine L_q (Q_nilCheck rfl) rfl rfl rfl ?_
    refine L_q (Q_fa0 rfl) rfl rfl rfl ?_
    refine L_q (Q_ld 4 rfl rfl rfl rfl) rfl rfl rfl ?_
    refine L_q (Q_lenAt 5 rfl rfl) rfl rfl rfl ?_
    refine L_q (Q_sub (r := (Xi.length : Int)) rfl rfl (by rw [show ((Xi ++ [g]).length : Int) - 1 = (Xi.length : Int) by omega]; exact IntWalk.i64_in _ (by omega))) rfl rfl rfl ?_
    refine L_q (Q_assign rfl) rfl rfl rfl ?_
    refine JL_nil ?_
    refine seqQ_normal ?_
    refine J_seq ?_
    refine J_drawH [0,9,10] [0, 1, 2, 3, 4, 5, 6, 7, 8, 9, 10, 11, 12, 15, 16] (.quiet 0 (.quiet 1 (.quiet 2 (.quiet 3 (.quiet 4 (.quiet 5 (.quiet 6 (.quiet 7 (.quiet 8 (.quiet 9 (.quiet 10 (.quiet 11 (.quiet 12 (.loud 13 (.loud 14 (.quiet 15 (.quiet 16 (.loud 17 .done)))))))))))))))))) Tryz.mixed (by kernel_rfl) (by kernel_rfl) (by repeat (first | exact retQ_noP | refine seqQ_noP ?_ | refine blockQ_noP ?_ | refine loopQ_noP ?_ | refine scopeQ_noP ?_ | (intro _ _ _ h; cases h.1))) ?_
    refine S_q (Ent.re [0,9,10] rfl) rfl (Q_move rfl) rfl rfl rfl ?_
    refine S_q (Ent.re [0,9,10] rfl) rfl (Q_move rfl) rfl rfl rfl ?_
    refine S_q (Ent.re [0,9,10] rfl) rfl (Q_nilCheck rfl) rfl rfl rfl ?_
    refine S_q (Ent.re [0,9,10] rfl) rfl (Q_fa0 rfl) rfl rfl rfl ?_
    refine S_q (Ent.re [0,9,10] rfl) rfl (Q_ld 0 rfl rfl rfl rfl) rfl rfl rfl ?_
    refine S_q (Ent.re [0,9,10] rfl) rfl (Q_move rfl) rfl rfl rfl ?_
    refine S_q (Ent.re [0,9,10] rfl) rfl (Q_nilCheck rfl) rfl rfl rfl ?_
    refine S_q (Ent.re [0,9,10] rfl) rfl (Q_fa0 rfl) rfl rfl rfl ?_
    refine S_q (Ent.re [0,9,10] rfl) rfl (Q_ld 1 rfl rfl rfl rfl) rfl rfl rfl ?_
    refine S_q (Ent.re [0,9,10] rfl) rfl (Q_move rfl) rfl rfl rfl ?_
    refine S_q (Ent.re [0,9,10] rfl) rfl (Q_sub (r := (A.length : Int)) rfl rfl (by rw [show ((A.length + 1 : Nat) : Int) - 1 = (A.length : Int) by omega]; exact IntWalk.i64_in _ (by omega))) rfl rfl rfl ?_
    refine S_q (Ent.re [0,9,10] rfl) rfl (Q_ixAt 2 A.length rfl rfl rfl rfl hKl rfl) rfl rfl rfl ?_
    refine S_q (Ent.re [0,9,10] rfl) rfl (Q_ldEAAt 2 A.length 0 (vs := kvV k) rfl rfl rfl rfl hKl (by decide) (by rw [hKg]; rfl)) rfl rfl rfl ?_
    refine S_o rfl rfl rfl rfl (O_litN (τ := tKv) (m := 1) (sz := 2) [k] rfl rfl rfl rfl rfl rfl (by decide) (by decide) (fun U => ⟨_, fun _ => ⟨Ent.reN [1,10,11] rfl, Ent.refl _⟩, ?_⟩))
    refine JS.norm ?_
    refine S_o rfl rfl rfl rfl (O_call [2,0] [1,3,4,5,6,7,8,9,10,11,12,13] (kvins_ok E Sy U ky k 0 (Nat.zero_le _) (by omega)) rfl rfl ?_)
    (rintro _ _ ⟨Sy2, rfl, rfl⟩; refine ⟨_, fun _ => ⟨Ent.reN [1,9,10] rfl, Ent.refl _⟩, ?_⟩)
    refine JS.norm ?_
    refine S_q (Ent.re [1,9,10] rfl) rfl (Q_nilCheck rfl) rfl rfl rfl ?_
    refine S_q (Ent.re [1,9,10] rfl) rfl (Q_fa0 rfl) rfl rfl rfl ?_
    refine S_s rfl rfl rfl (O_st1 1 rfl rfl rfl rfl rfl ⟨[], free_no (by kernel_rfl), ?_⟩)
    refine JS.norm ?_
    refine S_nil ?_
    refine seqQ_normal ?_
    refine J_seq ?_
    rw [List.take_zero, List.drop_zero, List.nil_append]
    refine J_drawH [9,4,5,10] [0, 1, 2, 3, 4, 5, 6, 7, 8, 9, 10, 11, 12, 13] (.quiet 0 (.quiet 1 (.quiet 2 (.quiet 3 (.quiet 4 (.quiet 5 (.quiet 6 (.quiet 7 (.quiet 8 (.quiet 9 (.quiet 10 (.quiet 11 (.quiet 12 (.quiet 13 (.loud 14 .done))))))))))))))) Tryz.mixed (by kernel_rfl) (by kernel_rfl) (by repeat (first | exact retQ_noP | refine seqQ_noP ?_ | refine blockQ_noP ?_ | refine loopQ_noP ?_ | refine scopeQ_noP ?_ | (intro _ _ _ h; cases h.1))) ?_
    refine S_q (Ent.re [9,4,5,10] rfl) rfl (Q_move rfl) rfl rfl rfl ?_
    refine S_q (Ent.re [9,4,5,10] rfl) rfl (Q_nilCheck rfl) rfl rfl rfl ?_
    refine S_q (Ent.re [9,4,5,10] rfl) rfl (Q_fa0 rfl) rfl rfl rfl ?_
    refine S_q (Ent.re [9,4,5,10] rfl) rfl (Q_ld 0 rfl rfl rfl rfl) rfl rfl rfl ?_
    refine S_q (Ent.re [9,4,5,10] rfl) rfl (Q_move rfl) rfl rfl rfl ?_
    refine S_q (Ent.re [9,4,5,10] rfl) rfl (Q_sub (r := (A.length : Int)) rfl rfl (by rw [show ((A.length + 1 : Nat) : Int) - 1 = (A.length : Int) by omega]; exact IntWalk.i64_in _ (by omega))) rfl rfl rfl ?_
    refine S_q (Ent.re [9,4,5,10] rfl) rfl (Q_move rfl) rfl rfl rfl ?_
    refine S_q (Ent.re [9,4,5,10] rfl) rfl (Q_nilCheck rfl) rfl rfl rfl ?_
    refine S_q (Ent.re [9,4,5,10] rfl) rfl (Q_fa0 rfl) rfl rfl rfl ?_
    refine S_q (Ent.re [9,4,5,10] rfl) rfl (Q_ld 1 rfl rfl rfl rfl) rfl rfl rfl ?_
    refine S_q (Ent.re [9,4,5,10] rfl) rfl (Q_move rfl) rfl rfl rfl ?_
    refine S_q (Ent.re [9,4,5,10] rfl) rfl (Q_ixAt 2 Xi.length rfl rfl rfl rfl hgl rfl) rfl rfl rfl ?_
    refine S_q (Ent.re [9,4,5,10] rfl) rfl (Q_ldEAAt 2 Xi.length 0 (vs := kvV g) rfl rfl rfl rfl hgl (by decide) (by rw [hgg]; rfl)) rfl rfl rfl ?_
    refine S_q (Ent.re [9,4,5,10] rfl) rfl (Q_ixAt 3 A.length rfl rfl rfl rfl hKl rfl) rfl rfl rfl ?_
    refine S_s rfl rfl rfl (O_stE 10 A.length 0 g rfl rfl rfl rfl rfl rfl (by intro c hc; simp [Value.cells] at hc; rcases hc with rfl | rfl <;> rfl) hKl (Nat.le_refl 2) (by simp [tKv, Value.cells]) ⟨[], free_no (by kernel_rfl), ?_⟩)
    refine JS.norm ?_
    refine S_nil ?_
    refine seqQ_normal ?_
    refine J_seq ?_
    rw [hset]
    refine J_region ?_
    refine L_q (Q_move rfl) rfl rfl rfl ?_
    refine L_q (Q_move rfl) rfl rfl rfl ?_
    refine L_q (Q_nilCheck rfl) rfl rfl rfl ?_
    refine L_q (Q_fa0 rfl) rfl rfl rfl ?_
    refine L_q (Q_ld 4 rfl rfl rfl rfl) rfl rfl rfl ?_
    refine L_q (Q_move rfl) rfl rfl rfl ?_
    refine L_q (Q_slH (τ := tKv) Xi.length (fun w h => h.rd 5 rfl) rfl rfl rfl hle rfl) rfl rfl rfl ?_
    refine L_q (Q_nilCheck rfl) rfl rfl rfl ?_
    refine L_q (Q_fa0 rfl) rfl rfl rfl ?_
    refine L_s rfl rfl (O_st1 4 rfl rfl rfl rfl rfl ?_)
    refine JL.norm ?_
    refine JL_nil ?_
    refine seqQ_normal ?_
    refine J_seq ?_
    refine J.ent (Ent.begin (τ := tKv) 5 rfl Xi.length hle) ?_
    rw [et]
    simp only [List.set_cons_succ, List.set_cons_zero]
    refine J_region ?_
    refine L_q (Q_move rfl) rfl rfl rfl ?_
    refine L_o rfl rfl rfl (O_call [4,6] [0,1,2,3,5,7,8,9,10,11,12] hlf rfl rfl ?_)
    rintro _ _ ⟨rfl, rfl⟩
    refine JL.norm ?_
    refine L_q ((Q_not rfl).as (v' := .bool true) rfl) rfl rfl rfl ?_
    refine JL_nil ?_
    refine seqQ_normal ?_
    refine J_condT rfl ?_
    refine J_seq ?_
    refine J_drawH [3,0,1] [0, 1, 2, 3, 4, 5, 6, 7, 8, 9, 10, 11, 12, 15, 16] (.quiet 0 (.quiet 1 (.quiet 2 (.quiet 3 (.quiet 4 (.quiet 5 (.quiet 6 (.quiet 7 (.quiet 8 (.quiet 9 (.quiet 10 (.quiet 11 (.quiet 12 (.loud 13 (.loud 14 (.quiet 15 (.quiet 16 (.loud 17 .done)))))))))))))))))) Tryz.mixed (by kernel_rfl) (by kernel_rfl) (by repeat (first | exact retQ_noP | refine seqQ_noP ?_ | refine blockQ_noP ?_ | refine loopQ_noP ?_ | refine scopeQ_noP ?_ | (intro _ _ _ h; cases h.1))) ?_
    refine S_q (Ent.re [3,0,1] rfl) rfl (Q_move rfl) rfl rfl rfl ?_
    refine S_q (Ent.re [3,0,1] rfl) rfl (Q_move rfl) rfl rfl rfl ?_
    refine S_q (Ent.re [3,0,1] rfl) rfl (Q_nilCheck rfl) rfl rfl rfl ?_
    refine S_q (Ent.re [3,0,1] rfl) rfl (Q_fa0 rfl) rfl rfl rfl ?_
    refine S_q (Ent.re [3,0,1] rfl) rfl (Q_ld 0 rfl rfl rfl rfl) rfl rfl rfl ?_
    refine S_q (Ent.re [3,0,1] rfl) rfl (Q_move rfl) rfl rfl rfl ?_
    refine S_q (Ent.re [3,0,1] rfl) rfl (Q_nilCheck rfl) rfl rfl rfl ?_
    refine S_q (Ent.re [3,0,1] rfl) rfl (Q_fa0 rfl) rfl rfl rfl ?_
    refine S_q (Ent.re [3,0,1] rfl) rfl (Q_ld 1 rfl rfl rfl rfl) rfl rfl rfl ?_
    refine S_q (Ent.re [3,0,1] rfl) rfl (Q_move rfl) rfl rfl rfl ?_
    refine S_q (Ent.re [3,0,1] rfl) rfl (Q_add rfl rfl (by first | exact IntWalk.i64_in _ (by omega) | exact IntWalk.u8_in _ (by omega) | exact IntWalk.u32_in _ (by omega) | exact IntWalk.u64_in _ (by omega) | rfl)) rfl rfl rfl ?_
    refine S_q (Ent.re [3,0,1] rfl) rfl (Q_ixAt 2 (Xi.length + 1) rfl rfl rfl rfl hpg rfl) rfl rfl rfl ?_
    refine S_q (Ent.re [3,0,1] rfl) rfl (Q_ldEAt 2 (Xi.length + 1) 0 (v := .pointer (some ⟨eg.1, 0, none⟩)) rfl rfl rfl rfl hpg (by decide) (by rw [hpgg]; rfl)) rfl rfl rfl ?_
    refine S_o rfl rfl rfl rfl (O_litN (τ := tNd) (m := 1) (sz := 1) [some eg.1] rfl rfl rfl rfl rfl rfl (by decide) (by decide) (fun U => ⟨_, fun _ => ⟨Ent.reN [4,1,2] rfl, Ent.refl _⟩, ?_⟩))
    refine JS.norm ?_
    refine S_o rfl rfl rfl rfl (O_call [5,0] [1,2,3,4,6,7,8,9,10,11,12,13] (ndins_ok E Ry U (pL eys) (some eg.1) 0 (Nat.zero_le _) (by rw [pL_len]; omega)) rfl rfl ?_)
    (rintro _ _ ⟨Ry2, rfl, rfl⟩; refine ⟨_, fun _ => ⟨Ent.reN [4,1,2] rfl, Ent.refl _⟩, ?_⟩)
    refine JS.norm ?_
    refine S_q (Ent.re [4,1,2] rfl) rfl (Q_nilCheck rfl) rfl rfl rfl ?_
    refine S_q (Ent.re [4,1,2] rfl) rfl (Q_fa0 rfl) rfl rfl rfl ?_
    refine S_s rfl rfl rfl (O_st1 4 rfl rfl rfl rfl rfl ⟨[], free_no (by kernel_rfl), ?_⟩)
    refine JS.norm ?_
    refine S_nil ?_
    refine seqQ_normal ?_
    rw [List.take_zero, List.drop_zero, List.nil_append]
    refine J_region ?_
    refine L_q (Q_move rfl) rfl rfl rfl ?_
    refine L_q (Q_move rfl) rfl rfl rfl ?_
    refine L_q (Q_nilCheck rfl) rfl rfl rfl ?_
    refine L_q (Q_fa0 rfl) rfl rfl rfl ?_
    refine L_q (Q_ld 1 rfl rfl rfl rfl) rfl rfl rfl ?_
    refine L_q (Q_move rfl) rfl rfl rfl ?_
    refine L_q (Q_add rfl rfl (by first | exact IntWalk.i64_in _ (by omega) | exact IntWalk.u8_in _ (by omega) | exact IntWalk.u32_in _ (by omega) | exact IntWalk.u64_in _ (by omega) | rfl)) rfl rfl rfl ?_
    refine L_q (Q_slH (τ := tNd) (Xi.length + 1) (fun w h => h.rd 2 rfl) rfl rfl rfl (Nat.le_of_lt hpg) rfl) rfl rfl rfl ?_
    refine L_q (Q_nilCheck rfl) rfl rfl rfl ?_
    refine L_q (Q_fa0 rfl) rfl rfl rfl ?_
    refine L_s rfl rfl (O_st1 1 rfl rfl rfl rfl rfl ?_)
    refine JL.norm ?_
    refine JL_nil ?_
    have hj1 : flat (d + 1) (Xi ++ [g], (es ++ [eg]).map (·.2)) = flat (d + 1) (Xi, es.map (·.2)) ++ g :: flat d eg.2 := by
      simp only [flat, List.map_append, List.map_cons, List.map_nil]
      have := ileave_join Xi [] g ((es.map (·.2)).map (flat d)) [flat d eg.2] (by simp; omega)
      rw [this]; simp [ileave]
    have hj2 : flat (d + 1) (k :: ky, (eg :: eys).map (·.2)) = flat d eg.2 ++ k :: flat (d + 1) (ky, eys.map (·.2)) := by simp [flat, ileave]
    refine retQ_normal [] _ .nil ⟨rfl, g, (Xi, es.map (·.2)), (k :: ky, (eg :: eys).map (·.2)), _, hj1, hj2, ⟨by show 3 ≤ Xi.length; omega, by show Xi.length ≤ 7; omega, by simpa using hel, fun c hc => hwx c (by simp only [List.map_append, List.mem_append]; exact .inl hc)⟩, ⟨by show 4 ≤ (k :: ky).length; simp; omega, by show (k :: ky).length ≤ 7; simp; omega, by simp; omega, fun c hc => by
      simp only [List.map_cons, List.mem_cons] at hc
      rcases hc with rfl | hc
      · exact hwx _ (by simp)
      · exact hwy _ hc⟩, rfl⟩ ?_
    refine (Ent.begin (τ := tNd) 2 rfl (Xi.length + 1) (Nat.le_of_lt hpg)).trans ?_
    simp only [List.set_cons_succ, List.set_cons_zero]
    rw [hpt, show (es ++ [eg]).map (ndE d) = es.map (ndE d) ++ [eg].map (ndE d) from List.map_append]
    refine (Ent.re [7, 0, 1, 2, 3, 4, 5, 6, 8, 9, 10, 11, 12] rfl).trans (Ent.stars_split.trans ?_)
    refine (Ent.re [1, 7, 0, 2, 3, 4, 5, 6, 8, 9, 10, 11, 12, 13] rfl).trans (Ent.stars_join.trans ?_)
    rw [← List.map_append]
    refine (Ent.re [6, 5, 2, 0, 3, 7, 4, 1, 8, 9, 10, 11, 12] rfl).trans ?_
    refine (Ent.innerA (es := [eg] ++ eys) (K := k :: ky) (C := (eg :: eys).map (·.2)) rfl).trans ?_
    refine (Ent.re [1, 2, 3, 4, 0, 5, 6, 7, 8, 9] rfl).trans ?_
    refine (Ent.innerA (es := es) (K := Xi) (C := es.map (·.2)) rfl).trans ?_
    exact (Ent.two_back2 (d := d + 1) (x := (qx, ((Xi, es.map (·.2)) : T (d + 1)))) (y := (qy, ((k :: ky, (eg :: eys).map (·.2)) : T (d + 1)))) (pL_same (d := d + 1) A B (qx, _) (qy, _) _ _))
end Go.Proofs.Bt
/- A pair moved from one child to its neighbour. -/
set_option autoImplicit false
namespace Go.Proofs.Bt
open Go.SL
attribute [local irreducible] J JL QOp JOp seqQ blockQ loopQ retQ slc cel hex star pur stars Does RV Ent pAt scopeQ
attribute [local irreducible] nodeA nodeX treeA
theorem fromRight_ok (E : World) (d p : Nat) (S R : SV) (K1 K2 : List Kv) (k : Kv) (A B : List (Nat × T d)) (x y : Nat × T d) (hA : K1.length = A.length) (hx : wf 3 d x.2) (hy : wf 4 d y.2) (hx6 : (tks d x.2).length ≤ 6) (hK : K1.length + K2.length ≤ 1000) (hB : A.length + B.length ≤ 1000) :
    Does Tryz.prog E 122 [.pointer (some ⟨p, 0, none⟩), .int .i64 (A.length : Int)] [ndC p S R, slc tKv true S (K1 ++ k :: K2), slc tNd true R (pL (A ++ x :: y :: B)), stars ((A ++ x :: y :: B).map (ndE d))]
    fun v L => v = .tuple #[] ∧ ∃ (k' : Kv) (cx cy : T d) (mid : List Kv), flat d y.2 = mid ++ k' :: flat d cy ∧ flat d cx = flat d x.2 ++ k :: mid ∧ wf 4 d cx ∧ wf 3 d cy ∧ L = [ndC p S R, slc tKv true S (K1 ++ k' :: K2), slc tNd true R (pL (A ++ (x.1, cx) :: (y.1, cy) :: B)), stars ((A ++ (x.1, cx) :: (y.1, cy) :: B).map (ndE d))] := by
  obtain ⟨qx, cx⟩ := x
  obtain ⟨qy, cy⟩ := y
  dsimp only at hx hy hx6 ⊢
  have hKl : A.length < (K1 ++ k :: K2).length := by simp; omega
  have hKg : (K1 ++ k :: K2)[A.length] = k := get_mid hA hKl
  have hP1 : A.length < (pL (A ++ (qx, cx) :: (qy, cy) :: B)).length := by rw [pL_len]; simp
  have hP2 : A.length + 1 < (pL (A ++ (qx, cx) :: (qy, cy) :: B)).length := by rw [pL_len]; simp
  have g1 := pL_get1 A B (qx, cx) (qy, cy) hP1
  have g2 := pL_get2 A B (qx, cx) (qy, cy) hP2
  have hset : ∀ g : Kv, (K1 ++ k :: K2).set A.length g = K1 ++ g :: K2 := fun g => set_mid hA
  refine Does.of Tryz.func122 rfl Tryz.ntmps122 rfl rfl fun F => ?_
  refine J.norm ?_
  refine J_seq ?_
  refine J_drawH [0,2] [0, 1, 2, 3, 4, 5, 6, 7, 8, 9, 10, 11, 12, 13, 14, 15, 16] (.quiet 0 (.quiet 1 (.quiet 2 (.quiet 3 (.quiet 4 (.quiet 5 (.quiet 6 (.quiet 7 (.quiet 8 (.quiet 9 (.quiet 10 (.quiet 11 (.quiet 12 (.quiet 13 (.quiet 14 (.quiet 15 (.quiet 16 .done))))))))))))))))) Tryz.mixed (by kernel_rfl) (by kernel_rfl) (by repeat (first | exact retQ_noP | refine seqQ_noP ?_ | refine blockQ_noP ?_ | refine loopQ_noP ?_ | refine scopeQ_noP ?_ | (intro _ _ _ h; cases h.1))) ?_
  refine S_q (Ent.re [0,2] rfl) rfl (Q_move rfl) rfl rfl rfl ?_
  refine S_q (Ent.re [0,2] rfl) rfl (Q_nilCheck rfl) rfl rfl rfl ?_
  refine S_q (Ent.re [0,2] rfl) rfl (Q_fa0 rfl) rfl rfl rfl ?_
  refine S_q (Ent.re [0,2] rfl) rfl (Q_ld 0 rfl rfl rfl rfl) rfl rfl rfl ?_
  refine S_q (Ent.re [0,2] rfl) rfl (Q_move rfl) rfl rfl rfl ?_
  refine S_q (Ent.re [0,2] rfl) rfl (Q_ixAt 1 A.length rfl rfl rfl rfl hP1 rfl) rfl rfl rfl ?_
  refine S_q (Ent.re [0,2] rfl) rfl (Q_ldEAt 1 A.length 0 (v := .pointer (some ⟨qx, 0, none⟩)) rfl rfl rfl rfl hP1 (by decide) (by rw [g1]; rfl)) rfl rfl rfl ?_
  refine S_q (Ent.re [0,2] rfl) rfl (Q_move rfl) rfl rfl rfl ?_
  refine S_q (Ent.re [0,2] rfl) rfl (Q_nilCheck rfl) rfl rfl rfl ?_
  refine S_q (Ent.re [0,2] rfl) rfl (Q_fa0 rfl) rfl rfl rfl ?_
  refine S_q (Ent.re [0,2] rfl) rfl (Q_ld 0 rfl rfl rfl rfl) rfl rfl rfl ?_
  refine S_q (Ent.re [0,2] rfl) rfl (Q_move rfl) rfl rfl rfl ?_
  refine S_q (Ent.re [0,2] rfl) rfl (Q_add rfl rfl (by first | exact IntWalk.i64_in _ (by omega) | exact IntWalk.u8_in _ (by omega) | exact IntWalk.u32_in _ (by omega) | exact IntWalk.u64_in _ (by omega) | rfl)) rfl rfl rfl ?_
  refine S_q (Ent.re [0,2] rfl) rfl (Q_ixAt 1 (A.length + 1) rfl rfl rfl rfl hP2 rfl) rfl rfl rfl ?_
  refine S_q (Ent.re [0,2] rfl) rfl (Q_ldEAt 1 (A.length + 1) 0 (v := .pointer (some ⟨qy, 0, none⟩)) rfl rfl rfl rfl hP2 (by decide) (by rw [g2]; rfl)) rfl rfl rfl ?_
  refine S_q (Ent.re [0,2] rfl) rfl (Q_assign rfl) rfl rfl rfl ?_
  refine S_q (Ent.re [0,2] rfl) rfl (Q_assign rfl) rfl rfl rfl ?_
  refine S_nil ?_
  refine seqQ_normal ?_
  refine J_seq ?_
  refine J.ent Ent.two_out ?_
  cases d with
  | zero =>
    refine J.leaf fun Sx Rx => J.ent (Ent.re [3, 0, 1, 2, 4, 5, 6, 7, 8] rfl) (J.leaf fun Sy Ry => ?_)
    dsimp only
    have h4 : 4 ≤ (tks 0 cy).length := (wf_ks hy).1
    have h7 : (tks 0 cy).length ≤ 7 := (wf_ks hy).2
    have h3 : 3 ≤ (tks 0 cx).length := (wf_ks hx).1
    have h6 : (tks 0 cx).length ≤ 6 := hx6
    have ex : flat 0 cx = tks 0 cx := rfl
    have ey : flat 0 cy = tks 0 cy := rfl
    rw [ex, ey]
    clear ex ey
    generalize tks 0 cx = X at *
    generalize tks 0 cy = Y at *
    obtain ⟨g, Yr, rfl⟩ := cons_of (l := Y) (by omega)
    simp only [List.length_cons] at h4 h7
    have hgl : 0 < (g :: Yr).length := Nat.succ_pos _
    refine J_drawH [3,7,8] [0, 1, 2, 3, 4, 5, 6, 7, 8, 9, 10, 11, 14, 15] (.quiet 0 (.quiet 1 (.quiet 2 (.quiet 3 (.quiet 4 (.quiet 5 (.quiet 6 (.quiet 7 (.quiet 8 (.quiet 9 (.quiet 10 (.quiet 11 (.loud 12 (.loud 13 (.quiet 14 (.quiet 15 (.loud 16 .done))))))))))))))))) Tryz.mixed (by kernel_rfl) (by kernel_rfl) (by repeat (first | exact retQ_noP | refine seqQ_noP ?_ | refine blockQ_noP ?_ | refine loopQ_noP ?_ | refine scopeQ_noP ?_ | (intro _ _ _ h; cases h.1))) ?_
    refine S_q (Ent.re [3,7,8] rfl) rfl (Q_move rfl) rfl rfl rfl ?_
    refine S_q (Ent.re [3,7,8] rfl) rfl (Q_move rfl) rfl rfl rfl ?_
    refine S_q (Ent.re [3,7,8] rfl) rfl (Q_nilCheck rfl) rfl rfl rfl ?_
    refine S_q (Ent.re [3,7,8] rfl) rfl (Q_fa0 rfl) rfl rfl rfl ?_
    refine S_q (Ent.re [3,7,8] rfl) rfl (Q_ld 0 rfl rfl rfl rfl) rfl rfl rfl ?_
    refine S_q (Ent.re [3,7,8] rfl) rfl (Q_move rfl) rfl rfl rfl ?_
    refine S_q (Ent.re [3,7,8] rfl) rfl (Q_nilCheck rfl) rfl rfl rfl ?_
    refine S_q (Ent.re [3,7,8] rfl) rfl (Q_fa0 rfl) rfl rfl rfl ?_
    refine S_q (Ent.re [3,7,8] rfl) rfl (Q_ld 1 rfl rfl rfl rfl) rfl rfl rfl ?_
    refine S_q (Ent.re [3,7,8] rfl) rfl (Q_move rfl) rfl rfl rfl ?_
    refine S_q (Ent.re [3,7,8] rfl) rfl (Q_ixAt 2 A.length rfl rfl rfl rfl hKl rfl) rfl rfl rfl ?_
    refine S_q (Ent.re [3,7,8] rfl) rfl (Q_ldEAAt 2 A.length 0 (vs := kvV k) rfl rfl rfl rfl hKl (by decide) (by rw [hKg]; rfl)) rfl rfl rfl ?_
    refine S_o rfl rfl rfl rfl (O_litP (τ := tKv) (m := 1) (sz := 2) [k] rfl rfl rfl rfl rfl rfl (by decide) (fun U => ⟨_, fun _ => ⟨Ent.reN [4,8,9] rfl, Ent.refl _⟩, ?_⟩))
    refine JS.norm ?_
    refine S_o rfl rfl rfl rfl (O_app (τ := tKv) 5 rfl (fun w h => h.rd 0 rfl) rfl rfl rfl rfl (by simp only [List.length_singleton]; omega) (by decide) (fun V => ⟨_, fun _ => ⟨Ent.reN [4,8,9] rfl, Ent.refl _⟩, ?_⟩))
    refine JS.norm ?_
    refine S_q (Ent.re [4,8,9] rfl) rfl (Q_nilCheck rfl) rfl rfl rfl ?_
    refine S_q (Ent.re [4,8,9] rfl) rfl (Q_fa0 rfl) rfl rfl rfl ?_
    refine S_s rfl rfl rfl (O_st1 4 rfl rfl rfl rfl rfl ⟨[], free_no (by kernel_rfl), ?_⟩)
    refine JS.norm ?_
    refine S_nil ?_
    refine seqQ_normal ?_
    refine J_seq ?_
    refine J_drawH [8,1,2,9] [0, 1, 2, 3, 4, 5, 6, 7, 8, 9, 10, 11] (.quiet 0 (.quiet 1 (.quiet 2 (.quiet 3 (.quiet 4 (.quiet 5 (.quiet 6 (.quiet 7 (.quiet 8 (.quiet 9 (.quiet 10 (.quiet 11 (.loud 12 .done))))))))))))) Tryz.mixed (by kernel_rfl) (by kernel_rfl) (by repeat (first | exact retQ_noP | refine seqQ_noP ?_ | refine blockQ_noP ?_ | refine loopQ_noP ?_ | refine scopeQ_noP ?_ | (intro _ _ _ h; cases h.1))) ?_
    refine S_q (Ent.re [8,1,2,9] rfl) rfl (Q_move rfl) rfl rfl rfl ?_
    refine S_q (Ent.re [8,1,2,9] rfl) rfl (Q_nilCheck rfl) rfl rfl rfl ?_
    refine S_q (Ent.re [8,1,2,9] rfl) rfl (Q_fa0 rfl) rfl rfl rfl ?_
    refine S_q (Ent.re [8,1,2,9] rfl) rfl (Q_ld 0 rfl rfl rfl rfl) rfl rfl rfl ?_
    refine S_q (Ent.re [8,1,2,9] rfl) rfl (Q_move rfl) rfl rfl rfl ?_
    refine S_q (Ent.re [8,1,2,9] rfl) rfl (Q_move rfl) rfl rfl rfl ?_
    refine S_q (Ent.re [8,1,2,9] rfl) rfl (Q_nilCheck rfl) rfl rfl rfl ?_
    refine S_q (Ent.re [8,1,2,9] rfl) rfl (Q_fa0 rfl) rfl rfl rfl ?_
    refine S_q (Ent.re [8,1,2,9] rfl) rfl (Q_ld 1 rfl rfl rfl rfl) rfl rfl rfl ?_
    refine S_q (Ent.re [8,1,2,9] rfl) rfl (Q_ixAt 2 0 rfl rfl rfl rfl hgl rfl) rfl rfl rfl ?_
    refine S_q (Ent.re [8,1,2,9] rfl) rfl (Q_ldEAAt 2 0 0 (vs := kvV g) rfl rfl rfl rfl hgl (by decide) rfl) rfl rfl rfl ?_
    refine S_q (Ent.re [8,1,2,9] rfl) rfl (Q_ixAt 3 A.length rfl rfl rfl rfl hKl rfl) rfl rfl rfl ?_
    refine S_s rfl rfl rfl (O_stE 9 A.length 0 g rfl rfl rfl rfl rfl rfl (by intro c hc; simp [Value.cells] at hc; rcases hc with rfl | rfl <;> rfl) hKl (Nat.le_refl 2) (by simp [tKv, Value.cells]) ⟨[], free_no (by kernel_rfl), ?_⟩)
    refine JS.norm ?_
    refine S_nil ?_
    refine seqQ_normal ?_
    refine J_seq ?_
    rw [hset]
    refine J_region ?_
    refine L_q (Q_move rfl) rfl rfl rfl ?_
    refine L_q (Q_move rfl) rfl rfl rfl ?_
    refine L_q (Q_nilCheck rfl) rfl rfl rfl ?_
    refine L_q (Q_fa0 rfl) rfl rfl rfl ?_
    refine L_q (Q_ld 1 rfl rfl rfl rfl) rfl rfl rfl ?_
    refine L_o rfl rfl rfl (O_call [2] [0,1,3,4,5,6,7,8,9,10,11] (kvdel_ok E Sy (g :: Yr) 0 1 (by decide) (by simp) (by simp; omega)) rfl rfl ?_)
    rintro _ _ ⟨Sy2, rfl, rfl⟩
    refine JL.norm ?_
    refine L_q (Q_nilCheck rfl) rfl rfl rfl ?_
    refine L_q (Q_fa0 rfl) rfl rfl rfl ?_
    refine L_s rfl rfl (O_st1 2 rfl rfl rfl rfl rfl ?_)
    refine JL.norm ?_
    refine JL_nil ?_
    refine seqQ_normal ?_
    refine J_seq ?_
    refine J_region ?_
    refine L_q (Q_move rfl) rfl rfl rfl ?_
    refine L_o rfl rfl rfl (O_call [2,3] [0,1,4,5,6,7,8,9,10,11] (leaf_ok E qy _ Ry []) rfl rfl ?_)
    rintro _ _ ⟨rfl, rfl⟩
    refine JL.norm ?_
    refine L_q ((Q_not rfl).as (v' := .bool false) rfl) rfl rfl rfl ?_
    refine JL_nil ?_
    refine seqQ_normal ?_
    refine J_condF rfl ?_
    refine J_skip ?_
    refine retQ_normal [] _ .nil ⟨rfl, g, (X ++ [k] : List Kv), (Yr : List Kv), [], by simp [flat], by simp [flat], ⟨by show 4 ≤ (X ++ [k]).length; simp; omega, by show (X ++ [k]).length ≤ 7; simp; omega⟩, ⟨by show 3 ≤ Yr.length; omega, by show Yr.length ≤ 7; omega⟩, rfl⟩ ?_
    refine (Ent.re [4, 5, 6, 0, 2, 1, 7, 8, 9, 10, 11] rfl).trans ?_
    refine (Ent.leafA (t := (X ++ [k] : List Kv))).trans ?_
    refine (Ent.re [1, 2, 3, 0, 4, 5, 6, 7, 8] rfl).trans ?_
    refine (Ent.leafA (t := (Yr : List Kv))).trans ?_
    exact (Ent.re [1, 0, 2, 3, 4, 5, 6] rfl).trans (Ent.two_back2 (d := 0) (x := (qx, (X ++ [k] : List Kv))) (y := (qy, (Yr : List Kv))) (pL_same (d := 0) A B (qx, cx) (qy, cy) _ _))
  | succ d =>
    obtain ⟨kx, ccx⟩ := cx
    obtain ⟨ky, ccy⟩ := cy
    refine J.inner fun Sx Rx exs hexs => J.ent (Ent.re [4, 0, 1, 2, 3, 5, 6, 7, 8, 9] rfl) (J.inner fun Sy Ry eys heys => ?_)
    obtain ⟨h3, _, hcx, hwx⟩ := hx
    obtain ⟨h4, h7, hcy, hwy⟩ := hy
    have h6 : kx.length ≤ 6 := hx6
    dsimp only at h4 h7 h3 hcx hcy hwx hwy hexs heys ⊢
    obtain ⟨g, Yr, rfl⟩ := cons_of (l := ky) (by omega)
    obtain ⟨eg, es, rfl⟩ := cons_of (l := eys) (by rw [← heys, List.length_map] at hcy; omega)
    subst hexs heys
    simp only [List.length_cons] at h4 h7
    have hel : es.length = Yr.length + 1 := by simpa using hcy
    have hex : exs.length = kx.length + 1 := by simpa using hcx
    have hgl : 0 < (g :: Yr).length := Nat.succ_pos _
    have hpg : 0 < (pL (eg :: es)).length := Nat.succ_pos _
    have hlf := leaf_ok E qy Sy Ry (pL (eg :: es))
    rw [show decide (((pL (eg :: es)).length : Int) = 0) = false from decide_eq_false (by omega)] at hlf
    refine J_drawH [4,9,10] [0, 1, 2, 3, 4, 5, 6, 7, 8, 9, 10, 11, 14, 15] (.quiet 0 (.quiet 1 (.quiet 2 (.quiet 3 (.quiet 4 (.quiet 5 (.quiet 6 (.quiet 7 (.quiet 8 (.quiet 9 (.quiet 10 (.quiet 11 (.loud 12 (.loud 13 (.quiet 14 (.quiet 15 (.loud 16 .done))))))))))))))))) Tryz.mixed (by kernel_rfl) (by kernel_rfl) (by repeat (first | exact retQ_noP | refine seqQ_noP ?_ | refine blockQ_noP ?_ | refine loopQ_noP ?_ | refine scopeQ_noP ?_ | (intro _ _ _ h; cases h.1))) ?_
    refine S_q (Ent.re [4,9,10] rfl) rfl (Q_move rfl) rfl rfl rfl ?_
    refine S_q (Ent.re [4,9,10] rfl) rfl (Q_move rfl) rfl rfl rfl ?_
    refine S_q (Ent.re [4,9,10] rfl) rfl (Q_nilCheck rfl) rfl rfl rfl ?_
    refine S_q (Ent.re [4,9,10] rfl) rfl (Q_fa0 rfl) rfl rfl rfl ?_
    refine S_q (Ent.re [4,9,10] rfl) rfl (Q_ld 0 rfl rfl rfl rfl) rfl rfl rfl ?_
    refine S_q (Ent.re [4,9,10] rfl) rfl (Q_move rfl) rfl rfl rfl ?_
    refine S_q (Ent.re [4,9,10] rfl) rfl (Q_nilCheck rfl) rfl rfl rfl ?_
    refine S_q (Ent.re [4,9,10] rfl) rfl (Q_fa0 rfl) rfl rfl rfl ?_
    refine S_q (Ent.re [4,9,10] rfl) rfl (Q_ld 1 rfl rfl rfl rfl) rfl rfl rfl ?_
    refine S_q (Ent.re [4,9,10] rfl) rfl (Q_move rfl) rfl rfl rfl ?_
    refine S_q (Ent.re [4,9,10] rfl) rfl (Q_ixAt 2 A.length rfl rfl rfl rfl hKl rfl) rfl rfl rfl ?_
    refine S_q (Ent.re [4,9,10] rfl) rfl (Q_ldEAAt 2 A.length 0 (vs := kvV k) rfl rfl rfl rfl hKl (by decide) (by rw [hKg]; rfl)) rfl rfl rfl ?_
    refine S_o rfl rfl rfl rfl (O_litP (τ := tKv) (m := 1) (sz := 2) [k] rfl rfl rfl rfl rfl rfl (by decide) (fun U => ⟨_, fun _ => ⟨Ent.reN [5,10,11] rfl, Ent.refl _⟩, ?_⟩))
    refine JS.norm ?_
    refine S_o rfl rfl rfl rfl (O_app (τ := tKv) 6 rfl (fun w h => h.rd 0 rfl) rfl rfl rfl rfl (by simp only [List.length_singleton]; omega) (by decide) (fun V => ⟨_, fun _ => ⟨Ent.reN [5,10,11] rfl, Ent.refl _⟩, ?_⟩))
    refine JS.norm ?_
    refine S_q (Ent.re [5,10,11] rfl) rfl (Q_nilCheck rfl) rfl rfl rfl ?_
    refine S_q (Ent.re [5,10,11] rfl) rfl (Q_fa0 rfl) rfl rfl rfl ?_
    refine S_s rfl rfl rfl (O_st1 5 rfl rfl rfl rfl rfl ⟨[], free_no (by kernel_rfl), ?_⟩)
    refine JS.norm ?_
    refine S_nil ?_
    refine seqQ_normal ?_
    refine J_seq ?_
    refine J_drawH [10,1,2,11] [0, 1, 2, 3, 4, 5, 6, 7, 8, 9, 10, 11] (.quiet 0 (.quiet 1 (.quiet 2 (.quiet 3 (.quiet 4 (.quiet 5 (.quiet 6 (.quiet 7 (.quiet 8 (.quiet 9 (.quiet 10 (.quiet 11 (.loud 12 .done))))))))))))) Tryz.mixed (by kernel_rfl) (by kernel_rfl) (by repeat (first | exact retQ_noP | refine seqQ_noP ?_ | refine blockQ_noP ?_ | refine loopQ_noP ?_ | refine scopeQ_noP ?_ | (intro _ _ _ h; cases h.1))) ?_
    refine S_q (Ent.re [10,1,2,11] rfl) rfl (Q_move rfl) rfl rfl rfl ?_
    refine S_q (Ent.re [10,1,2,11] rfl) rfl (Q_nilCheck rfl) rfl rfl rfl ?_
    refine S_q (Ent.re [10,1,2,11] rfl) rfl (Q_fa0 rfl) rfl rfl rfl ?_
    refine S_q (Ent.re [10,1,2,11] rfl) rfl (Q_ld 0 rfl rfl rfl rfl) rfl rfl rfl ?_
    refine S_q (Ent.re [10,1,2,11] rfl) rfl (Q_move rfl) rfl rfl rfl ?_
    refine S_q (Ent.re [10,1,2,11] rfl) rfl (Q_move rfl) rfl rfl rfl ?_
    refine S_q (Ent.re [10,1,2,11] rfl) rfl (Q_nilCheck rfl) rfl rfl rfl ?_
    refine S_q (Ent.re [10,1,2,11] rfl) rfl (Q_fa0 rfl) rfl rfl rfl ?_
    refine S_q (Ent.re [10,1,2,11] rfl) rfl (Q_ld 1 rfl rfl rfl rfl) rfl rfl rfl ?_
    refine S_q (Ent.re [10,1,2,11] rfl) rfl (Q_ixAt 2 0 rfl rfl rfl rfl hgl rfl) rfl rfl rfl ?_
    refine S_q (Ent.re [10,1,2,11] rfl) rfl (Q_ldEAAt 2 0 0 (vs := kvV g) rfl rfl rfl rfl hgl (by decide) rfl) rfl rfl rfl ?_
    refine S_q (Ent.re [10,1,2,11] rfl) rfl (Q_ixAt 3 A.length rfl rfl rfl rfl hKl rfl) rfl rfl rfl ?_
    refine S_s rfl rfl rfl (O_stE 11 A.length 0 g rfl rfl rfl rfl rfl rfl (by intro c hc; simp [Value.cells] at hc; rcases hc with rfl | rfl <;> rfl) hKl (Nat.le_refl 2) (by simp [tKv, Value.cells]) ⟨[], free_no (by kernel_rfl), ?_⟩)
    refine JS.norm ?_
    refine S_nil ?_
    refine seqQ_normal ?_
    refine J_seq ?_
    rw [hset]
    refine J_region ?_
    refine L_q (Q_move rfl) rfl rfl rfl ?_
    refine L_q (Q_move rfl) rfl rfl rfl ?_
    refine L_q (Q_nilCheck rfl) rfl rfl rfl ?_
    refine L_q (Q_fa0 rfl) rfl rfl rfl ?_
    refine L_q (Q_ld 1 rfl rfl rfl rfl) rfl rfl rfl ?_
    refine L_o rfl rfl rfl (O_call [2] [0,1,3,4,5,6,7,8,9,10,11,12,13] (kvdel_ok E Sy (g :: Yr) 0 1 (by decide) (by simp) (by simp; omega)) rfl rfl ?_)
    rintro _ _ ⟨Sy2, rfl, rfl⟩
    refine JL.norm ?_
    refine L_q (Q_nilCheck rfl) rfl rfl rfl ?_
    refine L_q (Q_fa0 rfl) rfl rfl rfl ?_
    refine L_s rfl rfl (O_st1 2 rfl rfl rfl rfl rfl ?_)
    refine JL.norm ?_
    refine JL_nil ?_
    refine seqQ_normal ?_
    refine J_seq ?_
    refine J_region ?_
    refine L_q (Q_move rfl) rfl rfl rfl ?_
    refine L_o rfl rfl rfl (O_call [2,3] [0,1,4,5,6,7,8,9,10,11,12,13] (leaf_ok E qy Sy2 Ry (pL (eg :: es))) rfl rfl ?_)
    rintro _ _ ⟨rfl, rfl⟩
    refine JL.norm ?_
    refine L_q ((Q_not rfl).as (v' := .bool true) (congrArg Value.bool (by rw [decide_eq_false (by omega)]; rfl))) rfl rfl rfl ?_
    refine JL_nil ?_
    refine seqQ_normal ?_
    refine J_condT rfl ?_
    refine J_seq ?_
    refine J.ent (Ent.re [0, 1, 2, 4, 5, 6, 7, 8, 9, 10, 11, 12, 13] rfl) ?_
    refine J_drawH [4,0,1] [0, 1, 2, 3, 4, 5, 6, 7, 8, 9, 10, 13, 14] (.quiet 0 (.quiet 1 (.quiet 2 (.quiet 3 (.quiet 4 (.quiet 5 (.quiet 6 (.quiet 7 (.quiet 8 (.quiet 9 (.quiet 10 (.loud 11 (.loud 12 (.quiet 13 (.quiet 14 (.loud 15 .done)))))))))))))))) Tryz.mixed (by kernel_rfl) (by kernel_rfl) (by repeat (first | exact retQ_noP | refine seqQ_noP ?_ | refine blockQ_noP ?_ | refine loopQ_noP ?_ | refine scopeQ_noP ?_ | (intro _ _ _ h; cases h.1))) ?_
    refine S_q (Ent.re [4,0,1] rfl) rfl (Q_move rfl) rfl rfl rfl ?_
    refine S_q (Ent.re [4,0,1] rfl) rfl (Q_move rfl) rfl rfl rfl ?_
    refine S_q (Ent.re [4,0,1] rfl) rfl (Q_nilCheck rfl) rfl rfl rfl ?_
    refine S_q (Ent.re [4,0,1] rfl) rfl (Q_fa0 rfl) rfl rfl rfl ?_
    refine S_q (Ent.re [4,0,1] rfl) rfl (Q_ld 0 rfl rfl rfl rfl) rfl rfl rfl ?_
    refine S_q (Ent.re [4,0,1] rfl) rfl (Q_move rfl) rfl rfl rfl ?_
    refine S_q (Ent.re [4,0,1] rfl) rfl (Q_nilCheck rfl) rfl rfl rfl ?_
    refine S_q (Ent.re [4,0,1] rfl) rfl (Q_fa0 rfl) rfl rfl rfl ?_
    refine S_q (Ent.re [4,0,1] rfl) rfl (Q_ld 1 rfl rfl rfl rfl) rfl rfl rfl ?_
    refine S_q (Ent.re [4,0,1] rfl) rfl (Q_ixAt 2 0 rfl rfl rfl rfl hpg rfl) rfl rfl rfl ?_
    refine S_q (Ent.re [4,0,1] rfl) rfl (Q_ldEAt 2 0 0 (v := .pointer (some ⟨eg.1, 0, none⟩)) rfl rfl rfl rfl hpg (by decide) rfl) rfl rfl rfl ?_
    refine S_o rfl rfl rfl rfl (O_litP (τ := tNd) (m := 1) (sz := 1) [some eg.1] rfl rfl rfl rfl rfl rfl (by decide) (fun U => ⟨_, fun _ => ⟨Ent.reN [5,1,2] rfl, Ent.refl _⟩, ?_⟩))
    refine JS.norm ?_
    refine S_o rfl rfl rfl rfl (O_app (τ := tNd) 7 rfl (fun w h => h.rd 0 rfl) rfl rfl rfl rfl (by simp only [List.length_singleton, List.length_map]; omega) (by decide) (fun V => ⟨_, fun _ => ⟨Ent.reN [5,1,2] rfl, Ent.refl _⟩, ?_⟩))
    refine JS.norm ?_
    refine S_q (Ent.re [5,1,2] rfl) rfl (Q_nilCheck rfl) rfl rfl rfl ?_
    refine S_q (Ent.re [5,1,2] rfl) rfl (Q_fa0 rfl) rfl rfl rfl ?_
    refine S_s rfl rfl rfl (O_st1 5 rfl rfl rfl rfl rfl ⟨[], free_no (by kernel_rfl), ?_⟩)
    refine JS.norm ?_
    refine S_nil ?_
    refine seqQ_normal ?_
    refine J_region ?_
    refine L_q (Q_move rfl) rfl rfl rfl ?_
    refine L_q (Q_move rfl) rfl rfl rfl ?_
    refine L_q (Q_nilCheck rfl) rfl rfl rfl ?_
    refine L_q (Q_fa0 rfl) rfl rfl rfl ?_
    refine L_q (Q_ld 1 rfl rfl rfl rfl) rfl rfl rfl ?_
    refine L_o rfl rfl rfl (O_call [2] [0,1,3,4,5,6,7,8,9,10,11,12,13] (nddel_ok E Ry (pL (eg :: es)) 0 1 (by decide) (by simp) (by simp [pL]; omega)) rfl rfl ?_)
    rintro _ _ ⟨Ry2, rfl, rfl⟩
    refine JL.norm ?_
    refine L_q (Q_nilCheck rfl) rfl rfl rfl ?_
    refine L_q (Q_fa0 rfl) rfl rfl rfl ?_
    refine L_s rfl rfl (O_st1 2 rfl rfl rfl rfl rfl ?_)
    refine JL.norm ?_
    refine JL_nil ?_
    have hj2 : flat (d + 1) (kx ++ [k], (exs ++ [eg]).map (·.2)) = flat (d + 1) (kx, exs.map (·.2)) ++ k :: flat d eg.2 := by
      simp only [flat, List.map_append, List.map_cons, List.map_nil]
      have := ileave_join kx [] k ((exs.map (·.2)).map (flat d)) [flat d eg.2] (by simp; omega)
      rw [this]; simp [ileave]
    have hj1 : flat (d + 1) (g :: Yr, (eg :: es).map (·.2)) = flat d eg.2 ++ g :: flat (d + 1) (Yr, es.map (·.2)) := by simp [flat, ileave]
    refine retQ_normal [] _ .nil ⟨rfl, g, (kx ++ [k], (exs ++ [eg]).map (·.2)), (Yr, es.map (·.2)), _, hj1, hj2, ⟨by show 4 ≤ (kx ++ [k]).length; simp; omega, by show (kx ++ [k]).length ≤ 7; simp; omega, by simp; omega, fun c hc => by
      simp only [List.map_append, List.mem_append, List.map_cons, List.map_nil, List.mem_singleton] at hc
      rcases hc with hc | rfl
      · exact hwx _ hc
      · exact hwy _ (by simp)⟩, ⟨by show 3 ≤ Yr.length; omega, by show Yr.length ≤ 7; omega, by simpa using hel, fun c hc => hwy c (by simp only [List.map_cons, List.mem_cons]; exact .inr hc)⟩, rfl⟩ ?_
    rw [show (eg :: es).map (ndE d) = [eg].map (ndE d) ++ es.map (ndE d) from rfl, show (exs.map fun e => some e.1) ++ [some eg.1] = (exs ++ [eg]).map fun e => some e.1 from by simp]
    refine (Ent.re [4, 8, 0, 2, 3, 5, 6, 7, 9, 10, 11, 12, 13] rfl).trans (Ent.stars_split.trans ?_)
    refine (Ent.re [2, 0, 1, 3, 4, 5, 6, 7, 8, 9, 10, 11, 12, 13] rfl).trans (Ent.stars_join.trans ?_)
    rw [← List.map_append]
    refine (Ent.re [5, 6, 7, 0, 3, 4, 2, 1, 8, 9, 10, 11, 12] rfl).trans ?_
    refine (Ent.innerA (es := exs ++ [eg]) (K := kx ++ [k]) (C := (exs ++ [eg]).map (·.2)) rfl).trans ?_
    refine (Ent.re [1, 2, 3, 4, 0, 5, 6, 7, 8, 9] rfl).trans ?_
    refine (Ent.innerA (es := es) (K := Yr) (C := es.map (·.2)) rfl).trans ?_
    exact (Ent.re [1, 0, 2, 3, 4, 5, 6] rfl).trans (Ent.two_back2 (d := d + 1) (x := (qx, ((kx ++ [k], (exs ++ [eg]).map (·.2)) : T (d + 1)))) (y := (qy, ((Yr, es.map (·.2)) : T (d + 1)))) (pL_same (d := d + 1) A B (qx, _) (qy, _) _ _))
end Go.Proofs.Bt
/- Maps. -/
set_option autoImplicit false
namespace Go.SL
/-- How a map's keys and values lie. -/
structure MTy (κ β : Type) where
  kt : Nat
  vt : Nat
  kd : TypeDesc
  kenc : κ → Value
  venc : β → Value
  same : ∀ [DecidableEq κ], ∀ a b, Instr.sameNow kd (kenc a) (kenc b) = some (decide (a = b))
  bits : ∀ a, Instr.sameBits 10000 (kenc a) (kenc a) = true
  plain : (∃ k, kd = .int k) ∨ kd = .string
section
variable {κ β : Type} [DecidableEq κ] (M : MTy κ β)
def mrow (es : List MapEntry) (l : List (κ × β)) : Prop := es.map (fun e => (e.key, e.val)) = l.map fun x => (M.kenc x.1, M.venc x.2)
def mpc (r : Nat) (l : List (κ × β)) : HProp := fun _ h => ∃ (es : Array MapEntry) (clock : Nat), h r = some (.map es clock) ∧ mrow M es.toList l ∧ (es.toList.Pairwise fun x y => x.born < y.born) ∧ ∀ e ∈ es.toList, e.born < clock
def mget (l : List (κ × β)) (k : κ) : Option β := (l.find? fun x => decide (x.1 = k)).map (·.2)
def mset : List (κ × β) → κ → β → List (κ × β)
  | [], k, v => [(k, v)]
  | x :: l, k, v => if x.1 = k then (k, v) :: l else x :: mset l k v
def mdel : List (κ × β) → κ → List (κ × β)
  | [], _ => []
  | x :: l, k => if x.1 = k then l else x :: mdel l k
theorem mget_nil (k : κ) : mget ([] : List (κ × β)) k = none := rfl
theorem mget_cons (x : κ × β) (l : List (κ × β)) (k : κ) : mget (x :: l) k = if x.1 = k then some x.2 else mget l k := by
  unfold mget
  rw [List.find?_cons]
  by_cases h : x.1 = k <;> simp [h]
theorem mget_mset (l : List (κ × β)) (k : κ) (v : β) (j : κ) : mget (mset l k v) j = if k = j then some v else mget l j := by
  induction l with
  | nil => simp only [mset, mget_cons]
  | cons x l ih =>
    simp only [mset]
    split
    · rename_i h
      rw [mget_cons, mget_cons]
      by_cases hj : k = j
      · rw [if_pos hj, if_pos hj]
      · rw [if_neg hj, if_neg hj, if_neg (by rw [h]; exact hj)]
    · rename_i h
      rw [mget_cons, mget_cons, ih]
      by_cases hj : k = j
      · subst hj; simp [h]
      · simp [hj]
theorem mkeys_mset (l : List (κ × β)) (k : κ) (v : β) : ∀ j, j ∈ (mset l k v).map (·.1) → j = k ∨ j ∈ l.map (·.1) := by
  induction l with
  | nil => intro j hj; simp [mset] at hj; exact .inl hj
  | cons x l ih =>
    intro j hj
    simp only [mset] at hj
    split at hj
    · rename_i h
      rcases List.mem_cons.1 hj with rfl | hj
      · exact .inl rfl
      · exact .inr (by simp only [List.map_cons, List.mem_cons]; exact .inr hj)
    · rcases List.mem_cons.1 hj with rfl | hj
      · exact .inr (by simp)
      · rcases ih j hj with h2 | h2
        · exact .inl h2
        · exact .inr (by simp only [List.map_cons, List.mem_cons]; exact .inr h2)
theorem mset_nodup (l : List (κ × β)) (k : κ) (v : β) (h : (l.map (·.1)).Nodup) : ((mset l k v).map (·.1)).Nodup := by
  induction l with
  | nil => simp [mset]
  | cons x l ih =>
    rw [List.map_cons, List.nodup_cons] at h
    simp only [mset]
    split
    · rename_i hx; rw [List.map_cons, List.nodup_cons]; exact ⟨by rw [← hx]; exact h.1, h.2⟩
    · rename_i hx
      rw [List.map_cons, List.nodup_cons]
      refine ⟨fun hm => ?_, ih h.2⟩
      rcases mkeys_mset l k v _ hm with h2 | h2
      · exact hx h2
      · exact h.1 h2
theorem mget_none (l : List (κ × β)) (k : κ) (h : k ∉ l.map (·.1)) : mget l k = none := by
  induction l with
  | nil => rfl
  | cons x l ih =>
    rw [List.map_cons, List.mem_cons, not_or] at h
    rw [mget_cons, if_neg (fun e => h.1 e.symm), ih h.2]
theorem mget_mem (l : List (κ × β)) (k : κ) : k ∈ l.map (·.1) ↔ (mget l k).isSome = true := by
  induction l with
  | nil => simp [mget]
  | cons x l ih =>
    rw [mget_cons, List.map_cons, List.mem_cons]
    by_cases h : x.1 = k
    · simp [h]
    · rw [if_neg h, ← ih]; constructor
      · rintro (e | e); exact absurd e.symm h; exact e
      · exact .inr
theorem mdel_sub (l : List (κ × β)) (k : κ) : ∀ x, x ∈ mdel l k → x ∈ l := by
  induction l with
  | nil => intro x hx; simp [mdel] at hx
  | cons y l ih =>
    intro x hx
    simp only [mdel] at hx
    split at hx
    · exact List.mem_cons_of_mem _ hx
    · rcases List.mem_cons.1 hx with rfl | hx
      · simp
      · exact List.mem_cons_of_mem _ (ih x hx)
theorem mdel_nodup (l : List (κ × β)) (k : κ) (h : (l.map (·.1)).Nodup) : ((mdel l k).map (·.1)).Nodup := by
  induction l with
  | nil => simp [mdel]
  | cons x l ih =>
    rw [List.map_cons, List.nodup_cons] at h
    simp only [mdel]
    split
    · exact h.2
    · rw [List.map_cons, List.nodup_cons]
      refine ⟨fun hm => ?_, ih h.2⟩
      obtain ⟨y, hy, e⟩ := List.mem_map.1 hm
      exact h.1 (List.mem_map.2 ⟨y, mdel_sub l k y hy, e⟩)
theorem mget_mdel (l : List (κ × β)) (k j : κ) (h : (l.map (·.1)).Nodup) : mget (mdel l k) j = if k = j then none else mget l j := by
  induction l with
  | nil => simp [mdel, mget]
  | cons x l ih =>
    rw [List.map_cons, List.nodup_cons] at h
    simp only [mdel]
    split
    · rename_i hx
      rw [mget_cons]
      by_cases hj : k = j
      · rw [if_pos hj]; exact mget_none l j (by rw [← hj, ← hx]; exact h.1)
      · rw [if_neg hj, if_neg (by rw [hx]; exact hj)]
    · rename_i hx
      rw [mget_cons, mget_cons, ih h.2]
      by_cases hj : k = j
      · subst hj; simp [hx]
      · simp [hj]
/-- Where a key stands. -/
def midx : List (κ × β) → κ → Option Nat
  | [], _ => none
  | x :: l, k => if x.1 = k then some 0 else (midx l k).map (· + 1)
theorem findNow_eq (k : κ) : ∀ (es : List MapEntry) (l : List (κ × β)) (i : Nat), mrow M es l → Instr.findNow M.kd (M.kenc k) es i = some ((midx l k).bind fun j => (mget l k).map fun v => (i + j, M.venc v))
  | [], [], i, _ => rfl
  | [], _ :: _, i, h => by simp [mrow] at h
  | _ :: _, [], i, h => by simp [mrow] at h
  | e :: es, x :: l, i, h => by
    simp only [mrow, List.map_cons, List.cons.injEq, Prod.mk.injEq] at h
    obtain ⟨⟨h1, h2⟩, h3⟩ := h
    simp only [Instr.findNow, h1, M.same]
    by_cases hx : x.1 = k
    · have hk : k = x.1 := hx.symm
      simp [hk, midx, mget_cons, h2]
    · have hk : ¬ k = x.1 := fun e => hx e.symm
      simp only [hk, decide_false, midx, hx, if_false, mget_cons]
      rw [findNow_eq k es l (i + 1) h3]
      cases midx l k with
      | none => rfl
      | some j => cases mget l k with
        | none => rfl
        | some v => simp [Nat.add_assoc, Nat.add_comm 1 j]
theorem midx_get (l : List (κ × β)) (k : κ) : (midx l k).isSome = (mget l k).isSome := by
  induction l with
  | nil => rfl
  | cons x l ih =>
    rw [mget_cons]
    simp only [midx]
    by_cases hx : x.1 = k <;> simp [hx, ih]
end
end Go.SL
/- The operations on maps. -/
set_option autoImplicit false
namespace Go.SL
/-- The block r is the map of these pairs. -/
def mpC {κ β : Type} [DecidableEq κ] (M : MTy κ β) (r : Nat) (l : List (κ × β)) : HProp := fun _ h => ∃ (es : Array MapEntry) (clock : Nat), h r = some (.map es clock) ∧ mrow M es.toList l ∧ (∀ x ∈ es.toList, x.born < clock) ∧ (es.toList.map (·.born)).Nodup
theorem mrow_len {κ β : Type} {M : MTy κ β} {es : List MapEntry} {l : List (κ × β)} (h : mrow M es l) : es.length = l.length := by
  have := congrArg List.length h
  simpa [mrow] using this
section
variable {κ β : Type} [DecidableEq κ] {M : MTy κ β} {P : Program} {E : World} {n : Nat} {ρ : Env} {L : List HProp} {dst : Option Tmp} {ty : TypeId} {pos : String} {after : Array Edge} {g : Option (Nat × Bool)}
theorem gobj {r : Nat} {es : Array MapEntry} {clock : Nat} {w : World} (hb : w.heap[r]? = some (.map es clock)) : (getObj r).run P w = .ok (.map es clock) w := by simp [getObj, Sem.run, hb]
theorem sobj {r : Nat} {es : Array MapEntry} {clock : Nat} {w : World} (o : Obj) (hb : w.heap[r]? = some (.map es clock)) : (setObj r o).run P w = .ok () { w with heap := w.heap.setIfInBounds r o } := by
  simp only [setObj, Sem.run, hb]
theorem run_checkKey_plain (M : MTy κ β) [u : TyU P M.kt M.kd] (e : Bool) (k : κ) (w : World) : (Instr.checkKey e 10000 M.kt (M.kenc k)).run P w = .ok () w := by
  have hs := M.same k k
  rcases M.plain with ⟨q, hq⟩ | hq
  · rw [hq] at hs
    have hu := u.h
    rw [hq] at hu
    rw [show (10000 : Nat) = 9999 + 1 from rfl, Instr.checkKey]
    simp only [Sem.run_bind, run_underlying hu, Result.andThen_ok]
    cases hk : M.kenc k <;> simp [hk, Instr.sameNow] at hs ⊢
  · rw [hq] at hs
    have hu := u.h
    rw [hq] at hu
    rw [show (10000 : Nat) = 9999 + 1 from rfl, Instr.checkKey]
    simp only [Sem.run_bind, run_underlying hu, Result.andThen_ok]
    cases hk : M.kenc k <;> simp [hk, Instr.sameNow] at hs ⊢
theorem run_findKey (M : MTy κ β) [u : TyU P M.kt M.kd] (k : κ) {es : List MapEntry} {l : List (κ × β)} (h : mrow M es l) (w : World) : (Instr.findKey M.kt (M.kenc k) es).run P w = .ok ((midx l k).bind fun j => (mget l k).map fun v => (j, M.venc v)) w := by
  simp only [Instr.findKey, Sem.run_bind, run_underlying u.h, Result.andThen_ok, findNow_eq M k es l 0 h, Nat.zero_add, Sem.run_pure]
theorem find_some {l : List (κ × β)} {k : κ} {v : β} (h : mget l k = some v) : ∃ j, midx l k = some j := by
  have := midx_get l k
  rw [h] at this
  exact Option.isSome_iff_exists.1 this
theorem find_none {l : List (κ × β)} {k : κ} (h : mget l k = none) : midx l k = none := by
  have := midx_get l k
  rw [h] at this
  simpa using this
theorem run_lookup (M : MTy κ β) {t sz by_ : Nat} {z : Value} [ut : TyU P t (.map M.kt M.vt)] [u : TyU P M.kt M.kd] [v : TyI P M.vt sz z by_] (k : κ) (ok : Bool) {r : Nat} {es : Array MapEntry} {clock : Nat} {l : List (κ × β)} {w : World} (hb : w.heap[r]? = some (.map es clock)) (h : mrow M es.toList l) :
    (Instr.lookup t (.map (some r)) (M.kenc k) ok).run P w = .ok (if ok then .tuple #[((mget l k).map M.venc).getD z, .bool (mget l k).isSome] else ((mget l k).map M.venc).getD z) w := by
  obtain ⟨i, hi, _, hz, _⟩ := v.get
  simp only [Instr.lookup, Sem.run_bind, run_underlying ut.h, Result.andThen_ok, gobj hb, Sem.run_pure, run_checkKey_plain M, run_findKey M k h]
  cases hg : mget l k with
  | none =>
    rw [find_none hg]
    cases ok <;> simp [zeroValue, typeInfo, hi, hz]
  | some x =>
    obtain ⟨j, hj⟩ := find_some hg
    rw [hj]
    cases ok <;> simp
/-- m[k] -/
theorem Q_mget (i : Nat) {t sz by_ r : Nat} {z : Value} {x y : Operand} {l : List (κ × β)} (k : κ) [ut : TyU P t (.map M.kt M.vt)] [u : TyU P M.kt M.kd] [v : TyI P M.vt sz z by_] (hL : L[i]? = some (mpC M r l)) (hx : ρ.ev x = some (.map (some r))) (hy : ρ.ev y = some (M.kenc k)) :
    QOp P E n ⟨dst, .lookup t x y false, ty, pos, after, g⟩ ρ L (((mget l k).map M.venc).getD z) := fun a w ha hs => by
  obtain ⟨p, ⟨es, clock, hb, hr, _, _⟩, hw⟩ := hs.at hL
  simp only [execOp, ha.ev hx, ha.ev hy]
  rw [Sem.run_bind, run_lookup M k false (hw r _ hb).2 hr]
  simp
/-- v, ok := m[k] -/
theorem Q_mgetOk (i : Nat) {t sz by_ r : Nat} {z : Value} {x y : Operand} {l : List (κ × β)} (k : κ) [ut : TyU P t (.map M.kt M.vt)] [u : TyU P M.kt M.kd] [v : TyI P M.vt sz z by_] (hL : L[i]? = some (mpC M r l)) (hx : ρ.ev x = some (.map (some r))) (hy : ρ.ev y = some (M.kenc k)) :
    QOp P E n ⟨dst, .lookup t x y true, ty, pos, after, g⟩ ρ L (.tuple #[((mget l k).map M.venc).getD z, .bool (mget l k).isSome]) := fun a w ha hs => by
  obtain ⟨p, ⟨es, clock, hb, hr, _, _⟩, hw⟩ := hs.at hL
  simp only [execOp, ha.ev hx, ha.ev hy]
  rw [Sem.run_bind, run_lookup M k true (hw r _ hb).2 hr]
  simp
/-- len(m) -/
theorem Q_mlen (i : Nat) {t a b r : Nat} {x : Operand} {l : List (κ × β)} [ut : TyU P t (.map a b)] (hL : L[i]? = some (mpC M r l)) (hx : ρ.ev x = some (.map (some r))) :
    QOp P E n ⟨dst, .call ⟨.builtin .len, #[x], #[t]⟩, ty, pos, after, g⟩ ρ L (.int .i64 (l.length : Int)) := fun a' w ha hs => by
  obtain ⟨p, ⟨es, clock, hb, hr, _, _⟩, hw⟩ := hs.at hL
  have hlen := mrow_len hr
  refine run_builtin (args := [x]) (vs := [.map (some r)]) a' w ha (by simp [Env.evs, hx]) (fun cs => ?_)
  simp only [builtin, Builtin.len_]
  simp [run_underlying ut.h, gobj (hw r _ hb).2, goInt]
  have : es.size = l.length := by simpa using hlen
  omega
theorem turned_set (w : World) (r : Nat) (o o' : Obj) (h : w.heap[r]? = some o) : Turned w { w with heap := w.heap.setIfInBounds r o' } r o' := by
  have hlt : r < w.heap.size := (Array.getElem?_eq_some_iff.1 h).1
  refine ⟨rfl, rfl, rfl, by simp, fun k hk _ => ?_, ?_⟩
  · simp [Array.getElem?_setIfInBounds, Ne.symm hk]
  · simp [Array.getElem?_setIfInBounds, hlt]
theorem mrow_mset : ∀ (es : List MapEntry) (l : List (κ × β)) (k : κ) (v : β) (j : Nat), mrow M es l → midx l k = some j → mrow M (es.modify j fun e => { e with key := M.kenc k, val := M.venc v }) (mset l k v) ∧ (es.modify j fun e => { e with key := M.kenc k, val := M.venc v }).map (·.born) = es.map (·.born) ∧ ∃ e, es[j]? = some e ∧ e.key = M.kenc k
  | [], [], _, _, _, _, h => by simp [midx] at h
  | [], _ :: _, _, _, _, h, _ => by simp [mrow] at h
  | _ :: _, [], _, _, _, h, _ => by simp [mrow] at h
  | e :: es, x :: l, k, v, j, h, hj => by
    have h' := h
    simp only [mrow, List.map_cons, List.cons.injEq, Prod.mk.injEq] at h
    obtain ⟨⟨h1, h2⟩, h3⟩ := h
    simp only [midx] at hj
    simp only [mset]
    split at hj
    · rename_i hx
      cases hj
      rw [if_pos hx]
      refine ⟨?_, by simp, e, rfl, by rw [h1, hx]⟩
      simp only [List.modify_zero_cons, mrow, List.map_cons]
      rw [show List.map (fun e => (e.key, e.val)) es = List.map (fun x => (M.kenc x.1, M.venc x.2)) l from h3]
    · rename_i hx
      rw [if_neg hx]
      cases hm : midx l k with
      | none => rw [hm] at hj; cases hj
      | some q =>
        rw [hm] at hj
        cases hj
        obtain ⟨i1, i2, e2, i3, i4⟩ := mrow_mset es l k v q h3 hm
        refine ⟨?_, by simp [i2], e2, by simpa using i3, i4⟩
        simp only [List.modify_succ_cons, mrow, List.map_cons, h1, h2]
        congr 1
theorem mrow_push (es : List MapEntry) (l : List (κ × β)) (k : κ) (v : β) (b : Nat) (h : mrow M es l) (hk : mget l k = none) : mrow M (es ++ [{ key := M.kenc k, val := M.venc v, born := b }]) (mset l k v) := by
  have e : mset l k v = l ++ [(k, v)] := by
    clear h
    induction l with
    | nil => rfl
    | cons x l ih =>
      rw [mget_cons] at hk
      split at hk
      · cases hk
      · rename_i hx; simp only [mset, if_neg hx, ih hk, List.cons_append]
  rw [e]
  simp only [mrow, List.map_append, List.map_cons, List.map_nil] at h ⊢
  rw [h]
/-- m[k] = v -/
theorem O_mset (i : Nat) {K : Value → List HProp → Prop} {t r : Nat} {x y z : Operand} {l : List (κ × β)} (k : κ) (v : β) [ut : TyU P t (.map M.kt M.vt)] [u : TyU P M.kt M.kd] (hL : L[i]? = some (mpC M r l)) (hx : ρ.ev x = some (.map (some r))) (hy : ρ.ev y = some (M.kenc k)) (hz : ρ.ev z = some (M.venc v))
    (hK : K undef (L.set i (mpC M r (mset l k v)))) : JOp P E n ⟨none, .mapUpdate t x y z, ty, pos, after, g⟩ K ρ L := fun a w ha hs next Q hn => by
  obtain ⟨p, ⟨es, clock, hb, hr, h1, h2⟩, hw⟩ := hs.at hL
  have hbw := (hw r _ hb).2
  have hfin : ∀ (es' : Array MapEntry) (c' : Nat), mrow M es'.toList (mset l k v) → (∀ x ∈ es'.toList, x.born < c') → (es'.toList.map (·.born)).Nodup → Sat E { w with heap := w.heap.setIfInBounds r (.map es' c') } (L.set i (mpC M r (mset l k v))) := fun es' c' q1 q2 q3 => by
    refine hs.turn_at hL (fun p' ⟨es2, c2, hp2, _⟩ _ => ⟨⟨_, hp2⟩, es', c', by simp, q1, q2, q3⟩) (turned_set w r _ _ hbw)
  have key : ∃ w', (Instr.mapUpdate t (.map (some r)) (M.kenc k) (M.venc v)).run P w = .ok () w' ∧ Sat E w' (L.set i (mpC M r (mset l k v))) := by
    simp only [Instr.mapUpdate, Sem.run_bind, run_underlying ut.h, Result.andThen_ok, gobj hbw, run_checkKey_plain M, run_findKey M k hr]
    cases hg : mget l k with
    | none =>
      rw [find_none hg]
      simp only [Option.bind_none]
      refine ⟨_, sobj _ hbw, hfin _ _ ?_ ?_ ?_⟩
      · simp only [Array.toList_push]; exact mrow_push _ _ _ _ _ hr hg
      · intro x hx
        simp only [Array.toList_push, List.mem_append, List.mem_singleton] at hx
        rcases hx with hx | rfl
        · have := h1 x hx; omega
        · simp
      · simp only [Array.toList_push, List.map_append, List.map_cons, List.map_nil]
        rw [List.nodup_append]
        refine ⟨h2, by simp, ?_⟩
        intro x hx y hy
        simp only [List.mem_singleton] at hy
        subst hy
        obtain ⟨e, he, rfl⟩ := List.mem_map.1 hx
        have := h1 e he
        omega
    | some x =>
      obtain ⟨j, hj⟩ := find_some hg
      obtain ⟨m1, m2, e, m3, m4⟩ := mrow_mset es.toList l k v j hr hj
      rw [hj]
      simp only [Option.bind_some, Option.map_some]
      have hej : es[j]? = some e := by simpa using m3
      have hst : (Instr.keyThatStays (((es[j]?).map (·.key)).getD (M.kenc k)) (M.kenc k)).run P w = .ok (M.kenc k) w := by
        rw [hej]
        simp only [Option.map_some, Option.getD_some, m4, Instr.keyThatStays, M.bits, if_true, Sem.run_pure]
      simp only [Sem.run_bind, hst, Result.andThen_ok]
      refine ⟨_, sobj _ hbw, hfin _ _ ?_ ?_ ?_⟩
      · rw [Array.toList_modify]; exact m1
      · intro x hx
        rw [Array.toList_modify] at hx
        have hx2 : x.born ∈ (es.toList.modify j fun e => { e with key := M.kenc k, val := M.venc v }).map (·.born) := List.mem_map_of_mem hx
        rw [m2] at hx2
        obtain ⟨e', he', e2⟩ := List.mem_map.1 hx2
        rw [← e2]; exact h1 e' he'
      · rw [Array.toList_modify, m2]; exact h2
  obtain ⟨w', hr', hs'⟩ := key
  unfold Oper.wp
  simp only [execOp, ha.ev hx, ha.ev hy, ha.ev hz]
  simp only [Sem.run_bind, hr', Result.andThen_ok, Sem.run_pure]
  exact hn _ _ w' hK hs'
theorem mrow_mdel : ∀ (es : List MapEntry) (l : List (κ × β)) (k : κ) (j : Nat), mrow M es l → midx l k = some j → mrow M (es.eraseIdx j) (mdel l k)
  | [], [], _, _, _, h => by simp [midx] at h
  | [], _ :: _, _, _, h, _ => by simp [mrow] at h
  | _ :: _, [], _, _, h, _ => by simp [mrow] at h
  | e :: es, x :: l, k, j, h, hj => by
    simp only [mrow, List.map_cons, List.cons.injEq, Prod.mk.injEq] at h
    obtain ⟨⟨h1, h2⟩, h3⟩ := h
    simp only [midx] at hj
    simp only [mdel]
    split at hj
    · rename_i hx
      cases hj
      rw [if_pos hx]
      exact h3
    · rename_i hx
      rw [if_neg hx]
      cases hm : midx l k with
      | none => rw [hm] at hj; cases hj
      | some q =>
        rw [hm] at hj
        cases hj
        have := mrow_mdel es l k q h3 hm
        simp only [Option.map_some, List.eraseIdx_cons_succ, mrow, List.map_cons, h1, h2]
        congr 1
theorem mdel_none (l : List (κ × β)) (k : κ) (h : mget l k = none) : mdel l k = l := by
  induction l with
  | nil => rfl
  | cons x l ih =>
    rw [mget_cons] at h
    split at h
    · cases h
    · rename_i hx; simp only [mdel, if_neg hx, ih h]
/-- delete(m, k) -/
theorem O_mdel (i : Nat) {K : Value → List HProp → Prop} {t t' r : Nat} {x y : Operand} {l : List (κ × β)} (k : κ) [ut : TyU P t (.map M.kt M.vt)] [u : TyU P M.kt M.kd] (hL : L[i]? = some (mpC M r l)) (hx : ρ.ev x = some (.map (some r))) (hy : ρ.ev y = some (M.kenc k))
    (hK : K (.tuple #[]) (L.set i (mpC M r (mdel l k)))) : JOp P E n ⟨dst, .call ⟨.builtin .delete, #[x, y], #[t, t']⟩, ty, pos, after, g⟩ K ρ L := fun a w ha hs next Q hn => by
  obtain ⟨p, ⟨es, clock, hb, hr, h1, h2⟩, hw⟩ := hs.at hL
  have hbw := (hw r _ hb).2
  have hfin : ∀ (es' : Array MapEntry), mrow M es'.toList (mdel l k) → (∀ x ∈ es'.toList, x.born < clock) → (es'.toList.map (·.born)).Nodup → Sat E { w with heap := w.heap.setIfInBounds r (.map es' clock) } (L.set i (mpC M r (mdel l k))) := fun es' q1 q2 q3 => by
    refine hs.turn_at hL (fun p' ⟨es2, c2, hp2, _⟩ _ => ⟨⟨_, hp2⟩, es', clock, by simp, q1, q2, q3⟩) (turned_set w r _ _ hbw)
  have key : ∃ w', (Builtin.delete_ #[t, t'] ty #[.map (some r), M.kenc k]).run P w = .ok (.tuple #[]) w' ∧ Sat E w' (L.set i (mpC M r (mdel l k))) := by
    cases hg : mget l k with
    | none =>
      refine ⟨_, ?_, hfin es (by rw [mdel_none l k hg]; exact hr) h1 h2⟩
      simp [Builtin.delete_, run_underlying ut.h, gobj hbw, run_checkKey_plain M, run_findKey M k hr, find_none hg, sobj _ hbw]
    | some x =>
      obtain ⟨j, hj⟩ := find_some hg
      refine ⟨_, ?_, hfin (es.eraseIdxIfInBounds j) ?_ ?_ ?_⟩
      · simp [Builtin.delete_, run_underlying ut.h, gobj hbw, run_checkKey_plain M, run_findKey M k hr, hj, hg, sobj _ hbw]
      · rw [Array.toList_eraseIdxIfInBounds]; exact mrow_mdel _ _ _ _ hr hj
      · intro x hx
        rw [Array.toList_eraseIdxIfInBounds] at hx
        exact h1 x (List.mem_of_mem_eraseIdx hx)
      · rw [Array.toList_eraseIdxIfInBounds]
        exact h2.sublist ((List.eraseIdx_sublist _ _).map _)
  obtain ⟨w', hr', hs'⟩ := key
  unfold Oper.wp
  simp only [execOp, resolve]
  have e1 : (Array.map a.eval #[x, y]) = #[.map (some r), M.kenc k] := by simp [ha.ev hx, ha.ev hy]
  simp only [run_bind_pure, invoke, e1, builtin]
  simp only [Sem.run_bind, hr', Result.andThen_ok, Sem.run_pure]
  exact hn _ _ w' hK hs'
/-- make(map[..]..) -/
theorem O_mnew (M : MTy κ β) {K : Value → List HProp → Prop} {t : Nat} (hK : ∀ r, K (.map (some r)) (mpC M r [] :: L)) : JOp P E n ⟨dst, .makeMap t none, ty, pos, after, g⟩ K ρ L := fun c w ha hs next Q hn => by
  unfold Oper.wp
  simp only [execOp, Instr.makeMap, Option.map_none]
  simp only [Sem.run_bind, Sem.run_pure, Result.andThen_ok, run_newObj]
  refine hn _ _ _ (hK w.heap.size) ?_
  refine (hs.newed (newed_alloc w (.map #[] 0))).weaken fun p hp => ⟨#[], 0, hp, rfl, by simp, by simp⟩
end
end Go.SL
