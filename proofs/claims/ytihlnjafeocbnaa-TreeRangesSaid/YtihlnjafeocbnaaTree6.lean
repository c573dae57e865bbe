/- A pair moved from one child to its neighbour. -/
import Derived.Test.YtihlnjafeocbnaaTree5
set_option autoImplicit false
namespace Go.Proofs
open Go.SL
theorem snoc_of {α : Type} {l : List α} (h : 1 ≤ l.length) : ∃ X g, l = X ++ [g] := by
  obtain ⟨A, e, B, rfl, hA⟩ := split_at (l := l) (i := l.length - 1) (by omega)
  have : B = [] := List.eq_nil_of_length_eq_zero (by simp only [List.length_append, List.length_cons] at h hA; omega)
  subst this
  exact ⟨A, e, rfl⟩
theorem cons_of {α : Type} {l : List α} (h : 1 ≤ l.length) : ∃ g X, l = g :: X := by
  cases l with
  | nil => simp at h
  | cons g X => exact ⟨g, X, rfl⟩
theorem pL_same {d : Nat} (A B : List (Nat × T d)) (x y : Nat × T d) (a b : T d) : pL (A ++ x :: y :: B) = pL (A ++ (x.1, a) :: (y.1, b) :: B) := by simp [pL]
theorem Ent.two_back2 {d : Nat} {A B : List (Nat × T d)} {x y : Nat × T d} {R : SV} {P : List (Option Nat)} {X Y F : HProp} (hP : P = pL (A ++ x :: y :: B)) : Ent [nodeA d x.1 x.2, nodeA d y.1 y.2, stars ((A ++ B).map (ndE d)), X, Y, slc tNd true R P, F] ([X, Y, slc tNd true R (pL (A ++ x :: y :: B)), stars ((A ++ x :: y :: B).map (ndE d))] ++ [F]) := by
  subst hP
  exact Ent.two_back
attribute [local irreducible] J JL QOp JOp seqQ blockQ loopQ retQ slc cel hex star pur stars Does RV Ent pAt scopeQ
attribute [local irreducible] nodeA nodeX treeA
theorem fromLeft_ok (E : World) (d p : Nat) (S R : SV) (K1 K2 : List Kv) (k : Kv) (A B : List (Nat × T d)) (x y : Nat × T d) (hA : K1.length = A.length) (hx : wf 4 d x.2) (hy : wf 3 d y.2) (hx6 : (tks d y.2).length ≤ 6) (hK : K1.length + K2.length ≤ 1000) (hB : A.length + B.length ≤ 1000) :
    Does Try.prog E 47 [.pointer (some ⟨p, 0, none⟩), .int .i64 ((A.length + 1 : Nat) : Int)] [ndC p S R, slc tKv true S (K1 ++ k :: K2), slc tNd true R (pL (A ++ x :: y :: B)), stars ((A ++ x :: y :: B).map (ndE d))]
    fun v L => v = .tuple #[] ∧ ∃ (k' : Kv) (cx cy : T d) (mid : List Kv), flat d x.2 = flat d cx ++ k' :: mid ∧ flat d cy = mid ++ k :: flat d y.2 ∧ wf 3 d cx ∧ wf 4 d cy ∧ L = [ndC p S R, slc tKv true S (K1 ++ k' :: K2), slc tNd true R (pL (A ++ (x.1, cx) :: (y.1, cy) :: B)), stars ((A ++ (x.1, cx) :: (y.1, cy) :: B).map (ndE d))] := by
  obtain ⟨qx, cx⟩ := x
  obtain ⟨qy, cy⟩ := y
  dsimp only at hx hy hx6 ⊢
  have hKl : A.length < (K1 ++ k :: K2).length := by simp; omega
  have hKg : (K1 ++ k :: K2)[A.length] = k := get_mid hA hKl
  have hP1 : A.length < (pL (A ++ (qx, cx) :: (qy, cy) :: B)).length := by rw [pL_len]; simp
  have hP2 : A.length + 1 < (pL (A ++ (qx, cx) :: (qy, cy) :: B)).length := by rw [pL_len]; simp
  have g1 := pL_get1 A B (qx, cx) (qy, cy) hP1
  have g2 := pL_get2 A B (qx, cx) (qy, cy) hP2
  have hset : ∀ g : Kv, (K1 ++ k :: K2).set A.length g = K1 ++ g :: K2 := fun g => set_mid hA
  refine Does.of Try.func47 rfl Try.ntmps47 rfl rfl fun F => ?_
  refine J.norm ?_
  refine J_seq ?_
  refine J_drawH [0,2] [0, 1, 2, 3, 4, 5, 6, 7, 8, 9, 10, 11, 12, 13, 14, 15, 16] (.quiet 0 (.quiet 1 (.quiet 2 (.quiet 3 (.quiet 4 (.quiet 5 (.quiet 6 (.quiet 7 (.quiet 8 (.quiet 9 (.quiet 10 (.quiet 11 (.quiet 12 (.quiet 13 (.quiet 14 (.quiet 15 (.quiet 16 .done))))))))))))))))) Try.mixed (by kernel_rfl) (by kernel_rfl) (by repeat (first | exact retQ_noP | refine seqQ_noP ?_ | refine blockQ_noP ?_ | refine loopQ_noP ?_ | refine scopeQ_noP ?_ | (intro _ _ _ h; cases h.1))) ?_
  refine S_q (Ent.re [0,2] rfl) rfl (Q_move rfl) rfl rfl rfl ?_
  refine S_q (Ent.re [0,2] rfl) rfl (Q_nilCheck rfl) rfl rfl rfl ?_
  refine S_q (Ent.re [0,2] rfl) rfl (Q_fa0 rfl) rfl rfl rfl ?_
  refine S_q (Ent.re [0,2] rfl) rfl (Q_ld 0 rfl rfl rfl rfl) rfl rfl rfl ?_
  refine S_q (Ent.re [0,2] rfl) rfl (Q_move rfl) rfl rfl rfl ?_
  refine S_q (Ent.re [0,2] rfl) rfl (Q_sub (r := (A.length : Int)) rfl rfl (by rw [show ((A.length + 1 : Nat) : Int) - 1 = (A.length : Int) by omega]; exact IntWalk.i64_in _ (by omega))) rfl rfl rfl ?_
  refine S_q (Ent.re [0,2] rfl) rfl (Q_ixAt 1 A.length rfl rfl rfl rfl hP1 rfl) rfl rfl rfl ?_
  refine S_q (Ent.re [0,2] rfl) rfl (Q_ldEAt 1 A.length 0 (v := .pointer (some ⟨qx, 0, none⟩)) rfl rfl rfl rfl hP1 (by decide) (by rw [g1]; rfl)) rfl rfl rfl ?_
  refine S_q (Ent.re [0,2] rfl) rfl (Q_move rfl) rfl rfl rfl ?_
  refine S_q (Ent.re [0,2] rfl) rfl (Q_nilCheck rfl) rfl rfl rfl ?_
  refine S_q (Ent.re [0,2] rfl) rfl (Q_fa0 rfl) rfl rfl rfl ?_
  refine S_q (Ent.re [0,2] rfl) rfl (Q_ld 0 rfl rfl rfl rfl) rfl rfl rfl ?_
  refine S_q (Ent.re [0,2] rfl) rfl (Q_move rfl) rfl rfl rfl ?_
  refine S_q (Ent.re [0,2] rfl) rfl (Q_ixAt 1 (A.length + 1) rfl rfl rfl rfl hP2 rfl) rfl rfl rfl ?_
  refine S_q (Ent.re [0,2] rfl) rfl (Q_ldEAt 1 (A.length + 1) 0 (v := .pointer (some ⟨qy, 0, none⟩)) rfl rfl rfl rfl hP2 (by decide) (by rw [g2]; rfl)) rfl rfl rfl ?_
  refine S_q (Ent.re [0,2] rfl) rfl (Q_assign rfl) rfl rfl rfl ?_
  refine S_q (Ent.re [0,2] rfl) rfl (Q_assign rfl) rfl rfl rfl ?_
  refine S_nil ?_
  refine seqQ_normal ?_
  refine J_seq ?_
  refine J.ent Ent.two_out ?_
  cases d with
  | zero =>
    refine J.leaf fun Sx Rx => J.ent (Ent.re [3, 0, 1, 2, 4, 5, 6, 7, 8] rfl) (J.leaf fun Sy Ry => ?_)
    dsimp only
    have h4 : 4 ≤ (tks 0 cx).length := (wf_ks hx).1
    have h7 : (tks 0 cx).length ≤ 7 := (wf_ks hx).2
    have h3 : 3 ≤ (tks 0 cy).length := (wf_ks hy).1
    have h6 : (tks 0 cy).length ≤ 6 := hx6
    have ex : flat 0 cx = tks 0 cx := rfl
    have ey : flat 0 cy = tks 0 cy := rfl
    rw [ex, ey]
    clear ex ey
    generalize tks 0 cx = X at *
    generalize tks 0 cy = Y at *
    obtain ⟨Xi, g, rfl⟩ := snoc_of (l := X) (by omega)
    simp only [List.length_append, List.length_singleton] at h4 h7
    have hxl : (Xi ++ [g]).length = Xi.length + 1 := by simp
    have hgl : Xi.length < (Xi ++ [g]).length := by omega
    have hgg : (Xi ++ [g])[Xi.length] = g := get_mid rfl hgl
    have hle : Xi.length ≤ (Xi ++ [g]).length := by omega
    have et : (Xi ++ [g]).take Xi.length = Xi := List.take_left
    refine J_region ?_
    refine L_q (Q_move rfl) rfl rfl rfl ?_
    refine L_q (Q_nilCheck rfl) rfl rfl rfl ?_
    refine L_q (Q_fa0 rfl) rfl rfl rfl ?_
    refine L_q (Q_ld 3 rfl rfl rfl rfl) rfl rfl rfl ?_
    refine L_q (Q_lenAt 4 rfl rfl) rfl rfl rfl ?_
    refine L_q (Q_sub (r := (Xi.length : Int)) rfl rfl (by rw [show ((Xi ++ [g]).length : Int) - 1 = (Xi.length : Int) by omega]; exact IntWalk.i64_in _ (by omega))) rfl rfl rfl ?_
    refine L_q (Q_assign rfl) rfl rfl rfl ?_
    refine JL_nil ?_
    refine seqQ_normal ?_
    refine J_seq ?_
    refine J_drawH [0,7,8] [0, 1, 2, 3, 4, 5, 6, 7, 8, 9, 10, 11, 12, 15, 16] (.quiet 0 (.quiet 1 (.quiet 2 (.quiet 3 (.quiet 4 (.quiet 5 (.quiet 6 (.quiet 7 (.quiet 8 (.quiet 9 (.quiet 10 (.quiet 11 (.quiet 12 (.loud 13 (.loud 14 (.quiet 15 (.quiet 16 (.loud 17 .done)))))))))))))))))) Try.mixed (by kernel_rfl) (by kernel_rfl) (by repeat (first | exact retQ_noP | refine seqQ_noP ?_ | refine blockQ_noP ?_ | refine loopQ_noP ?_ | refine scopeQ_noP ?_ | (intro _ _ _ h; cases h.1))) ?_
    refine S_q (Ent.re [0,7,8] rfl) rfl (Q_move rfl) rfl rfl rfl ?_
    refine S_q (Ent.re [0,7,8] rfl) rfl (Q_move rfl) rfl rfl rfl ?_
    refine S_q (Ent.re [0,7,8] rfl) rfl (Q_nilCheck rfl) rfl rfl rfl ?_
    refine S_q (Ent.re [0,7,8] rfl) rfl (Q_fa0 rfl) rfl rfl rfl ?_
    refine S_q (Ent.re [0,7,8] rfl) rfl (Q_ld 0 rfl rfl rfl rfl) rfl rfl rfl ?_
    refine S_q (Ent.re [0,7,8] rfl) rfl (Q_move rfl) rfl rfl rfl ?_
    refine S_q (Ent.re [0,7,8] rfl) rfl (Q_nilCheck rfl) rfl rfl rfl ?_
    refine S_q (Ent.re [0,7,8] rfl) rfl (Q_fa0 rfl) rfl rfl rfl ?_
    refine S_q (Ent.re [0,7,8] rfl) rfl (Q_ld 1 rfl rfl rfl rfl) rfl rfl rfl ?_
    refine S_q (Ent.re [0,7,8] rfl) rfl (Q_move rfl) rfl rfl rfl ?_
    refine S_q (Ent.re [0,7,8] rfl) rfl (Q_sub (r := (A.length : Int)) rfl rfl (by rw [show ((A.length + 1 : Nat) : Int) - 1 = (A.length : Int) by omega]; exact IntWalk.i64_in _ (by omega))) rfl rfl rfl ?_
    refine S_q (Ent.re [0,7,8] rfl) rfl (Q_ixAt 2 A.length rfl rfl rfl rfl hKl rfl) rfl rfl rfl ?_
    refine S_q (Ent.re [0,7,8] rfl) rfl (Q_ldEAAt 2 A.length 0 (vs := kvV k) rfl rfl rfl rfl hKl (by decide) (by rw [hKg]; rfl)) rfl rfl rfl ?_
    refine S_o rfl rfl rfl rfl (O_litN (τ := tKv) (m := 1) (sz := 2) [k] rfl rfl rfl rfl rfl rfl (by decide) (by decide) (fun U => ⟨_, fun _ => ⟨Ent.reN [1,8,9] rfl, Ent.refl _⟩, ?_⟩))
    refine JS.norm ?_
    refine S_o rfl rfl rfl rfl (O_call [2,0] [1,3,4,5,6,7,8,9,10,11] (kvins_ok E Sy U Y k 0 (Nat.zero_le _) (by omega)) rfl rfl ?_)
    (rintro _ _ ⟨Sy2, rfl, rfl⟩; refine ⟨_, fun _ => ⟨Ent.reN [1,7,8] rfl, Ent.refl _⟩, ?_⟩)
    refine JS.norm ?_
    refine S_q (Ent.re [1,7,8] rfl) rfl (Q_nilCheck rfl) rfl rfl rfl ?_
    refine S_q (Ent.re [1,7,8] rfl) rfl (Q_fa0 rfl) rfl rfl rfl ?_
    refine S_s rfl rfl rfl (O_st1 1 rfl rfl rfl rfl rfl ⟨[], free_no (by kernel_rfl), ?_⟩)
    refine JS.norm ?_
    refine S_nil ?_
    refine seqQ_normal ?_
    refine J_seq ?_
    rw [List.take_zero, List.drop_zero, List.nil_append]
    refine J_drawH [7,3,4,8] [0, 1, 2, 3, 4, 5, 6, 7, 8, 9, 10, 11, 12, 13] (.quiet 0 (.quiet 1 (.quiet 2 (.quiet 3 (.quiet 4 (.quiet 5 (.quiet 6 (.quiet 7 (.quiet 8 (.quiet 9 (.quiet 10 (.quiet 11 (.quiet 12 (.quiet 13 (.loud 14 .done))))))))))))))) Try.mixed (by kernel_rfl) (by kernel_rfl) (by repeat (first | exact retQ_noP | refine seqQ_noP ?_ | refine blockQ_noP ?_ | refine loopQ_noP ?_ | refine scopeQ_noP ?_ | (intro _ _ _ h; cases h.1))) ?_
    refine S_q (Ent.re [7,3,4,8] rfl) rfl (Q_move rfl) rfl rfl rfl ?_
    refine S_q (Ent.re [7,3,4,8] rfl) rfl (Q_nilCheck rfl) rfl rfl rfl ?_
    refine S_q (Ent.re [7,3,4,8] rfl) rfl (Q_fa0 rfl) rfl rfl rfl ?_
    refine S_q (Ent.re [7,3,4,8] rfl) rfl (Q_ld 0 rfl rfl rfl rfl) rfl rfl rfl ?_
    refine S_q (Ent.re [7,3,4,8] rfl) rfl (Q_move rfl) rfl rfl rfl ?_
    refine S_q (Ent.re [7,3,4,8] rfl) rfl (Q_sub (r := (A.length : Int)) rfl rfl (by rw [show ((A.length + 1 : Nat) : Int) - 1 = (A.length : Int) by omega]; exact IntWalk.i64_in _ (by omega))) rfl rfl rfl ?_
    refine S_q (Ent.re [7,3,4,8] rfl) rfl (Q_move rfl) rfl rfl rfl ?_
    refine S_q (Ent.re [7,3,4,8] rfl) rfl (Q_nilCheck rfl) rfl rfl rfl ?_
    refine S_q (Ent.re [7,3,4,8] rfl) rfl (Q_fa0 rfl) rfl rfl rfl ?_
    refine S_q (Ent.re [7,3,4,8] rfl) rfl (Q_ld 1 rfl rfl rfl rfl) rfl rfl rfl ?_
    refine S_q (Ent.re [7,3,4,8] rfl) rfl (Q_move rfl) rfl rfl rfl ?_
    refine S_q (Ent.re [7,3,4,8] rfl) rfl (Q_ixAt 2 Xi.length rfl rfl rfl rfl hgl rfl) rfl rfl rfl ?_
    refine S_q (Ent.re [7,3,4,8] rfl) rfl (Q_ldEAAt 2 Xi.length 0 (vs := kvV g) rfl rfl rfl rfl hgl (by decide) (by rw [hgg]; rfl)) rfl rfl rfl ?_
    refine S_q (Ent.re [7,3,4,8] rfl) rfl (Q_ixAt 3 A.length rfl rfl rfl rfl hKl rfl) rfl rfl rfl ?_
    refine S_s rfl rfl rfl (O_stE 8 A.length 0 g rfl rfl rfl rfl rfl rfl (by intro c hc; simp [Value.cells] at hc; rcases hc with rfl | rfl <;> rfl) hKl (Nat.le_refl 2) (by simp [tKv, Value.cells]) ⟨[], free_no (by kernel_rfl), ?_⟩)
    refine JS.norm ?_
    refine S_nil ?_
    refine seqQ_normal ?_
    refine J_seq ?_
    rw [hset]
    refine J_region ?_
    refine L_q (Q_move rfl) rfl rfl rfl ?_
    refine L_q (Q_move rfl) rfl rfl rfl ?_
    refine L_q (Q_nilCheck rfl) rfl rfl rfl ?_
    refine L_q (Q_fa0 rfl) rfl rfl rfl ?_
    refine L_q (Q_ld 3 rfl rfl rfl rfl) rfl rfl rfl ?_
    refine L_q (Q_move rfl) rfl rfl rfl ?_
    refine L_q (Q_slH (τ := tKv) Xi.length (fun w h => h.rd 4 rfl) rfl rfl rfl hle rfl) rfl rfl rfl ?_
    refine L_q (Q_nilCheck rfl) rfl rfl rfl ?_
    refine L_q (Q_fa0 rfl) rfl rfl rfl ?_
    refine L_s rfl rfl (O_st1 3 rfl rfl rfl rfl rfl ?_)
    refine JL.norm ?_
    refine JL_nil ?_
    refine seqQ_normal ?_
    refine J_seq ?_
    refine J.ent (Ent.begin (τ := tKv) 4 rfl Xi.length hle) ?_
    rw [et]
    simp only [List.set_cons_succ, List.set_cons_zero]
    refine J_region ?_
    refine L_q (Q_move rfl) rfl rfl rfl ?_
    refine L_o rfl rfl rfl (O_call [3,5] [0,1,2,4,6,7,8,9,10] (leaf_ok E qx _ Rx []) rfl rfl ?_)
    rintro _ _ ⟨rfl, rfl⟩
    refine JL.norm ?_
    refine L_q ((Q_not rfl).as (v' := .bool false) rfl) rfl rfl rfl ?_
    refine JL_nil ?_
    refine seqQ_normal ?_
    refine J_condF rfl ?_
    refine J_skip ?_
    refine retQ_normal [] _ .nil ⟨rfl, g, (Xi : List Kv), (k :: Y : List Kv), [], by simp [flat], by simp [flat], ⟨by show 3 ≤ Xi.length; omega, by show Xi.length ≤ 7; omega⟩, ⟨by show 4 ≤ (k :: Y).length; simp; omega, by show (k :: Y).length ≤ 7; simp; omega⟩, rfl⟩ ?_
    refine (Ent.re [0, 5, 1, 3, 2, 4, 6, 7, 8, 9, 10] rfl).trans ?_
    refine (Ent.leafA (t := (Xi : List Kv))).trans ?_
    refine (Ent.re [1, 2, 3, 0, 4, 5, 6, 7, 8] rfl).trans ?_
    refine (Ent.leafA (t := (k :: Y : List Kv))).trans ?_
    exact (Ent.re [1, 0, 2, 3, 4, 5, 6] rfl).trans (Ent.two_back2 (d := 0) (x := (qx, (Xi : List Kv))) (y := (qy, (k :: Y : List Kv))) (pL_same (d := 0) A B (qx, cx) (qy, cy) _ _))
  | succ d =>
    obtain ⟨kx, ccx⟩ := cx
    obtain ⟨ky, ccy⟩ := cy
    refine J.inner fun Sx Rx exs hexs => J.ent (Ent.re [4, 0, 1, 2, 3, 5, 6, 7, 8, 9] rfl) (J.inner fun Sy Ry eys heys => ?_)
    obtain ⟨h4, h7, hcx, hwx⟩ := hx
    obtain ⟨h3, _, hcy, hwy⟩ := hy
    have h6 : ky.length ≤ 6 := hx6
    dsimp only at h4 h7 h3 hcx hcy hwx hwy hexs heys ⊢
    obtain ⟨Xi, g, rfl⟩ := snoc_of (l := kx) (by omega)
    have hxl : (Xi ++ [g]).length = Xi.length + 1 := by simp
    obtain ⟨es, eg, rfl⟩ := snoc_of (l := exs) (by rw [← hexs, List.length_map] at hcx; omega)
    subst hexs heys
    have hel : es.length = Xi.length + 1 := by simp at hcx; omega
    have hey : eys.length = ky.length + 1 := by simpa using hcy
    have hgl : Xi.length < (Xi ++ [g]).length := by omega
    have hgg : (Xi ++ [g])[Xi.length] = g := get_mid rfl hgl
    have hle : Xi.length ≤ (Xi ++ [g]).length := by omega
    have et : (Xi ++ [g]).take Xi.length = Xi := List.take_left
    have hpx : (pL (es ++ [eg])).length = Xi.length + 2 := by rw [pL_len]; simp; omega
    have hpg : Xi.length + 1 < (pL (es ++ [eg])).length := by omega
    have hpgg : (pL (es ++ [eg]))[Xi.length + 1] = some eg.1 := by simp only [← hel]; exact mid_get _ es [] eg _
    have hpt : (pL (es ++ [eg])).take (Xi.length + 1) = pL es := by rw [← hel, show pL (es ++ [eg]) = pL es ++ [some eg.1] from by simp [pL]]; simp [pL]
    have hlf := leaf_ok E qx (Sx.sub tKv.sz 0 Xi.length) Rx (pL (es ++ [eg]))
    rw [show decide (((pL (es ++ [eg])).length : Int) = 0) = false from decide_eq_false (by omega)] at hlf
    refine J_region ?_
    refine L_q (Q_move rfl) rfl rfl rfl ?_
    refine L_q (Q_nilCheck rfl) rfl rfl rfl ?_
    refine L_q (Q_fa0 rfl) rfl rfl rfl ?_
    refine L_q (Q_ld 4 rfl rfl rfl rfl) rfl rfl rfl ?_
    refine L_q (Q_lenAt 5 rfl rfl) rfl rfl rfl ?_
    refine L_q (Q_sub (r := (Xi.length : Int)) rfl rfl (by rw [show ((Xi ++ [g]).length : Int) - 1 = (Xi.length : Int) by omega]; exact IntWalk.i64_in _ (by omega))) rfl rfl rfl ?_
    refine L_q (Q_assign rfl) rfl rfl rfl ?_
    refine JL_nil ?_
    refine seqQ_normal ?_
    refine J_seq ?_
    refine J_drawH [0,9,10] [0, 1, 2, 3, 4, 5, 6, 7, 8, 9, 10, 11, 12, 15, 16] (.quiet 0 (.quiet 1 (.quiet 2 (.quiet 3 (.quiet 4 (.quiet 5 (.quiet 6 (.quiet 7 (.quiet 8 (.quiet 9 (.quiet 10 (.quiet 11 (.quiet 12 (.loud 13 (.loud 14 (.quiet 15 (.quiet 16 (.loud 17 .done)))))))))))))))))) Try.mixed (by kernel_rfl) (by kernel_rfl) (by repeat (first | exact retQ_noP | refine seqQ_noP ?_ | refine blockQ_noP ?_ | refine loopQ_noP ?_ | refine scopeQ_noP ?_ | (intro _ _ _ h; cases h.1))) ?_
    refine S_q (Ent.re [0,9,10] rfl) rfl (Q_move rfl) rfl rfl rfl ?_
    refine S_q (Ent.re [0,9,10] rfl) rfl (Q_move rfl) rfl rfl rfl ?_
    refine S_q (Ent.re [0,9,10] rfl) rfl (Q_nilCheck rfl) rfl rfl rfl ?_
    refine S_q (Ent.re [0,9,10] rfl) rfl (Q_fa0 rfl) rfl rfl rfl ?_
    refine S_q (Ent.re [0,9,10] rfl) rfl (Q_ld 0 rfl rfl rfl rfl) rfl rfl rfl ?_
    refine S_q (Ent.re [0,9,10] rfl) rfl (Q_move rfl) rfl rfl rfl ?_
    refine S_q (Ent.re [0,9,10] rfl) rfl (Q_nilCheck rfl) rfl rfl rfl ?_
    refine S_q (Ent.re [0,9,10] rfl) rfl (Q_fa0 rfl) rfl rfl rfl ?_
    refine S_q (Ent.re [0,9,10] rfl) rfl (Q_ld 1 rfl rfl rfl rfl) rfl rfl rfl ?_
    refine S_q (Ent.re [0,9,10] rfl) rfl (Q_move rfl) rfl rfl rfl ?_
    refine S_q (Ent.re [0,9,10] rfl) rfl (Q_sub (r := (A.length : Int)) rfl rfl (by rw [show ((A.length + 1 : Nat) : Int) - 1 = (A.length : Int) by omega]; exact IntWalk.i64_in _ (by omega))) rfl rfl rfl ?_
    refine S_q (Ent.re [0,9,10] rfl) rfl (Q_ixAt 2 A.length rfl rfl rfl rfl hKl rfl) rfl rfl rfl ?_
    refine S_q (Ent.re [0,9,10] rfl) rfl (Q_ldEAAt 2 A.length 0 (vs := kvV k) rfl rfl rfl rfl hKl (by decide) (by rw [hKg]; rfl)) rfl rfl rfl ?_
    refine S_o rfl rfl rfl rfl (O_litN (τ := tKv) (m := 1) (sz := 2) [k] rfl rfl rfl rfl rfl rfl (by decide) (by decide) (fun U => ⟨_, fun _ => ⟨Ent.reN [1,10,11] rfl, Ent.refl _⟩, ?_⟩))
    refine JS.norm ?_
    refine S_o rfl rfl rfl rfl (O_call [2,0] [1,3,4,5,6,7,8,9,10,11,12,13] (kvins_ok E Sy U ky k 0 (Nat.zero_le _) (by omega)) rfl rfl ?_)
    (rintro _ _ ⟨Sy2, rfl, rfl⟩; refine ⟨_, fun _ => ⟨Ent.reN [1,9,10] rfl, Ent.refl _⟩, ?_⟩)
    refine JS.norm ?_
    refine S_q (Ent.re [1,9,10] rfl) rfl (Q_nilCheck rfl) rfl rfl rfl ?_
    refine S_q (Ent.re [1,9,10] rfl) rfl (Q_fa0 rfl) rfl rfl rfl ?_
    refine S_s rfl rfl rfl (O_st1 1 rfl rfl rfl rfl rfl ⟨[], free_no (by kernel_rfl), ?_⟩)
    refine JS.norm ?_
    refine S_nil ?_
    refine seqQ_normal ?_
    refine J_seq ?_
    rw [List.take_zero, List.drop_zero, List.nil_append]
    refine J_drawH [9,4,5,10] [0, 1, 2, 3, 4, 5, 6, 7, 8, 9, 10, 11, 12, 13] (.quiet 0 (.quiet 1 (.quiet 2 (.quiet 3 (.quiet 4 (.quiet 5 (.quiet 6 (.quiet 7 (.quiet 8 (.quiet 9 (.quiet 10 (.quiet 11 (.quiet 12 (.quiet 13 (.loud 14 .done))))))))))))))) Try.mixed (by kernel_rfl) (by kernel_rfl) (by repeat (first | exact retQ_noP | refine seqQ_noP ?_ | refine blockQ_noP ?_ | refine loopQ_noP ?_ | refine scopeQ_noP ?_ | (intro _ _ _ h; cases h.1))) ?_
    refine S_q (Ent.re [9,4,5,10] rfl) rfl (Q_move rfl) rfl rfl rfl ?_
    refine S_q (Ent.re [9,4,5,10] rfl) rfl (Q_nilCheck rfl) rfl rfl rfl ?_
    refine S_q (Ent.re [9,4,5,10] rfl) rfl (Q_fa0 rfl) rfl rfl rfl ?_
    refine S_q (Ent.re [9,4,5,10] rfl) rfl (Q_ld 0 rfl rfl rfl rfl) rfl rfl rfl ?_
    refine S_q (Ent.re [9,4,5,10] rfl) rfl (Q_move rfl) rfl rfl rfl ?_
    refine S_q (Ent.re [9,4,5,10] rfl) rfl (Q_sub (r := (A.length : Int)) rfl rfl (by rw [show ((A.length + 1 : Nat) : Int) - 1 = (A.length : Int) by omega]; exact IntWalk.i64_in _ (by omega))) rfl rfl rfl ?_
    refine S_q (Ent.re [9,4,5,10] rfl) rfl (Q_move rfl) rfl rfl rfl ?_
    refine S_q (Ent.re [9,4,5,10] rfl) rfl (Q_nilCheck rfl) rfl rfl rfl ?_
    refine S_q (Ent.re [9,4,5,10] rfl) rfl (Q_fa0 rfl) rfl rfl rfl ?_
    refine S_q (Ent.re [9,4,5,10] rfl) rfl (Q_ld 1 rfl rfl rfl rfl) rfl rfl rfl ?_
    refine S_q (Ent.re [9,4,5,10] rfl) rfl (Q_move rfl) rfl rfl rfl ?_
    refine S_q (Ent.re [9,4,5,10] rfl) rfl (Q_ixAt 2 Xi.length rfl rfl rfl rfl hgl rfl) rfl rfl rfl ?_
    refine S_q (Ent.re [9,4,5,10] rfl) rfl (Q_ldEAAt 2 Xi.length 0 (vs := kvV g) rfl rfl rfl rfl hgl (by decide) (by rw [hgg]; rfl)) rfl rfl rfl ?_
    refine S_q (Ent.re [9,4,5,10] rfl) rfl (Q_ixAt 3 A.length rfl rfl rfl rfl hKl rfl) rfl rfl rfl ?_
    refine S_s rfl rfl rfl (O_stE 10 A.length 0 g rfl rfl rfl rfl rfl rfl (by intro c hc; simp [Value.cells] at hc; rcases hc with rfl | rfl <;> rfl) hKl (Nat.le_refl 2) (by simp [tKv, Value.cells]) ⟨[], free_no (by kernel_rfl), ?_⟩)
    refine JS.norm ?_
    refine S_nil ?_
    refine seqQ_normal ?_
    refine J_seq ?_
    rw [hset]
    refine J_region ?_
    refine L_q (Q_move rfl) rfl rfl rfl ?_
    refine L_q (Q_move rfl) rfl rfl rfl ?_
    refine L_q (Q_nilCheck rfl) rfl rfl rfl ?_
    refine L_q (Q_fa0 rfl) rfl rfl rfl ?_
    refine L_q (Q_ld 4 rfl rfl rfl rfl) rfl rfl rfl ?_
    refine L_q (Q_move rfl) rfl rfl rfl ?_
    refine L_q (Q_slH (τ := tKv) Xi.length (fun w h => h.rd 5 rfl) rfl rfl rfl hle rfl) rfl rfl rfl ?_
    refine L_q (Q_nilCheck rfl) rfl rfl rfl ?_
    refine L_q (Q_fa0 rfl) rfl rfl rfl ?_
    refine L_s rfl rfl (O_st1 4 rfl rfl rfl rfl rfl ?_)
    refine JL.norm ?_
    refine JL_nil ?_
    refine seqQ_normal ?_
    refine J_seq ?_
    refine J.ent (Ent.begin (τ := tKv) 5 rfl Xi.length hle) ?_
    rw [et]
    simp only [List.set_cons_succ, List.set_cons_zero]
    refine J_region ?_
    refine L_q (Q_move rfl) rfl rfl rfl ?_
    refine L_o rfl rfl rfl (O_call [4,6] [0,1,2,3,5,7,8,9,10,11,12] hlf rfl rfl ?_)
    rintro _ _ ⟨rfl, rfl⟩
    refine JL.norm ?_
    refine L_q ((Q_not rfl).as (v' := .bool true) rfl) rfl rfl rfl ?_
    refine JL_nil ?_
    refine seqQ_normal ?_
    refine J_condT rfl ?_
    refine J_seq ?_
    refine J_drawH [3,0,1] [0, 1, 2, 3, 4, 5, 6, 7, 8, 9, 10, 11, 12, 15, 16] (.quiet 0 (.quiet 1 (.quiet 2 (.quiet 3 (.quiet 4 (.quiet 5 (.quiet 6 (.quiet 7 (.quiet 8 (.quiet 9 (.quiet 10 (.quiet 11 (.quiet 12 (.loud 13 (.loud 14 (.quiet 15 (.quiet 16 (.loud 17 .done)))))))))))))))))) Try.mixed (by kernel_rfl) (by kernel_rfl) (by repeat (first | exact retQ_noP | refine seqQ_noP ?_ | refine blockQ_noP ?_ | refine loopQ_noP ?_ | refine scopeQ_noP ?_ | (intro _ _ _ h; cases h.1))) ?_
    refine S_q (Ent.re [3,0,1] rfl) rfl (Q_move rfl) rfl rfl rfl ?_
    refine S_q (Ent.re [3,0,1] rfl) rfl (Q_move rfl) rfl rfl rfl ?_
    refine S_q (Ent.re [3,0,1] rfl) rfl (Q_nilCheck rfl) rfl rfl rfl ?_
    refine S_q (Ent.re [3,0,1] rfl) rfl (Q_fa0 rfl) rfl rfl rfl ?_
    refine S_q (Ent.re [3,0,1] rfl) rfl (Q_ld 0 rfl rfl rfl rfl) rfl rfl rfl ?_
    refine S_q (Ent.re [3,0,1] rfl) rfl (Q_move rfl) rfl rfl rfl ?_
    refine S_q (Ent.re [3,0,1] rfl) rfl (Q_nilCheck rfl) rfl rfl rfl ?_
    refine S_q (Ent.re [3,0,1] rfl) rfl (Q_fa0 rfl) rfl rfl rfl ?_
    refine S_q (Ent.re [3,0,1] rfl) rfl (Q_ld 1 rfl rfl rfl rfl) rfl rfl rfl ?_
    refine S_q (Ent.re [3,0,1] rfl) rfl (Q_move rfl) rfl rfl rfl ?_
    refine S_q (Ent.re [3,0,1] rfl) rfl (Q_add rfl rfl (by first | exact IntWalk.i64_in _ (by omega) | exact IntWalk.u8_in _ (by omega) | exact IntWalk.u32_in _ (by omega) | exact IntWalk.u64_in _ (by omega) | rfl)) rfl rfl rfl ?_
    refine S_q (Ent.re [3,0,1] rfl) rfl (Q_ixAt 2 (Xi.length + 1) rfl rfl rfl rfl hpg rfl) rfl rfl rfl ?_
    refine S_q (Ent.re [3,0,1] rfl) rfl (Q_ldEAt 2 (Xi.length + 1) 0 (v := .pointer (some ⟨eg.1, 0, none⟩)) rfl rfl rfl rfl hpg (by decide) (by rw [hpgg]; rfl)) rfl rfl rfl ?_
    refine S_o rfl rfl rfl rfl (O_litN (τ := tNd) (m := 1) (sz := 1) [some eg.1] rfl rfl rfl rfl rfl rfl (by decide) (by decide) (fun U => ⟨_, fun _ => ⟨Ent.reN [4,1,2] rfl, Ent.refl _⟩, ?_⟩))
    refine JS.norm ?_
    refine S_o rfl rfl rfl rfl (O_call [5,0] [1,2,3,4,6,7,8,9,10,11,12,13] (ndins_ok E Ry U (pL eys) (some eg.1) 0 (Nat.zero_le _) (by rw [pL_len]; omega)) rfl rfl ?_)
    (rintro _ _ ⟨Ry2, rfl, rfl⟩; refine ⟨_, fun _ => ⟨Ent.reN [4,1,2] rfl, Ent.refl _⟩, ?_⟩)
    refine JS.norm ?_
    refine S_q (Ent.re [4,1,2] rfl) rfl (Q_nilCheck rfl) rfl rfl rfl ?_
    refine S_q (Ent.re [4,1,2] rfl) rfl (Q_fa0 rfl) rfl rfl rfl ?_
    refine S_s rfl rfl rfl (O_st1 4 rfl rfl rfl rfl rfl ⟨[], free_no (by kernel_rfl), ?_⟩)
    refine JS.norm ?_
    refine S_nil ?_
    refine seqQ_normal ?_
    rw [List.take_zero, List.drop_zero, List.nil_append]
    refine J_region ?_
    refine L_q (Q_move rfl) rfl rfl rfl ?_
    refine L_q (Q_move rfl) rfl rfl rfl ?_
    refine L_q (Q_nilCheck rfl) rfl rfl rfl ?_
    refine L_q (Q_fa0 rfl) rfl rfl rfl ?_
    refine L_q (Q_ld 1 rfl rfl rfl rfl) rfl rfl rfl ?_
    refine L_q (Q_move rfl) rfl rfl rfl ?_
    refine L_q (Q_add rfl rfl (by first | exact IntWalk.i64_in _ (by omega) | exact IntWalk.u8_in _ (by omega) | exact IntWalk.u32_in _ (by omega) | exact IntWalk.u64_in _ (by omega) | rfl)) rfl rfl rfl ?_
    refine L_q (Q_slH (τ := tNd) (Xi.length + 1) (fun w h => h.rd 2 rfl) rfl rfl rfl (Nat.le_of_lt hpg) rfl) rfl rfl rfl ?_
    refine L_q (Q_nilCheck rfl) rfl rfl rfl ?_
    refine L_q (Q_fa0 rfl) rfl rfl rfl ?_
    refine L_s rfl rfl (O_st1 1 rfl rfl rfl rfl rfl ?_)
    refine JL.norm ?_
    refine JL_nil ?_
    have hj1 : flat (d + 1) (Xi ++ [g], (es ++ [eg]).map (·.2)) = flat (d + 1) (Xi, es.map (·.2)) ++ g :: flat d eg.2 := by
      simp only [flat, List.map_append, List.map_cons, List.map_nil]
      have := ileave_join Xi [] g ((es.map (·.2)).map (flat d)) [flat d eg.2] (by simp; omega)
      rw [this]; simp [ileave]
    have hj2 : flat (d + 1) (k :: ky, (eg :: eys).map (·.2)) = flat d eg.2 ++ k :: flat (d + 1) (ky, eys.map (·.2)) := by simp [flat, ileave]
    refine retQ_normal [] _ .nil ⟨rfl, g, (Xi, es.map (·.2)), (k :: ky, (eg :: eys).map (·.2)), _, hj1, hj2, ⟨by show 3 ≤ Xi.length; omega, by show Xi.length ≤ 7; omega, by simpa using hel, fun c hc => hwx c (by simp only [List.map_append, List.mem_append]; exact .inl hc)⟩, ⟨by show 4 ≤ (k :: ky).length; simp; omega, by show (k :: ky).length ≤ 7; simp; omega, by simp; omega, fun c hc => by
      simp only [List.map_cons, List.mem_cons] at hc
      rcases hc with rfl | hc
      · exact hwx _ (by simp)
      · exact hwy _ hc⟩, rfl⟩ ?_
    refine (Ent.begin (τ := tNd) 2 rfl (Xi.length + 1) (Nat.le_of_lt hpg)).trans ?_
    simp only [List.set_cons_succ, List.set_cons_zero]
    rw [hpt, show (es ++ [eg]).map (ndE d) = es.map (ndE d) ++ [eg].map (ndE d) from List.map_append]
    refine (Ent.re [7, 0, 1, 2, 3, 4, 5, 6, 8, 9, 10, 11, 12] rfl).trans (Ent.stars_split.trans ?_)
    refine (Ent.re [1, 7, 0, 2, 3, 4, 5, 6, 8, 9, 10, 11, 12, 13] rfl).trans (Ent.stars_join.trans ?_)
    rw [← List.map_append]
    refine (Ent.re [6, 5, 2, 0, 3, 7, 4, 1, 8, 9, 10, 11, 12] rfl).trans ?_
    refine (Ent.innerA (es := [eg] ++ eys) (K := k :: ky) (C := (eg :: eys).map (·.2)) rfl).trans ?_
    refine (Ent.re [1, 2, 3, 4, 0, 5, 6, 7, 8, 9] rfl).trans ?_
    refine (Ent.innerA (es := es) (K := Xi) (C := es.map (·.2)) rfl).trans ?_
    exact (Ent.two_back2 (d := d + 1) (x := (qx, ((Xi, es.map (·.2)) : T (d + 1)))) (y := (qy, ((k :: ky, (eg :: eys).map (·.2)) : T (d + 1)))) (pL_same (d := d + 1) A B (qx, _) (qy, _) _ _))
end Go.Proofs
