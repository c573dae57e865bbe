/- A pair moved from one child to its neighbour. -/
import Derived.Test.YtihlnjafeocbnaaTree6
set_option autoImplicit false
namespace Go.Proofs
open Go.SL
attribute [local irreducible] J JL QOp JOp seqQ blockQ loopQ retQ slc cel hex star pur stars Does RV Ent pAt scopeQ
attribute [local irreducible] nodeA nodeX treeA
theorem fromRight_ok (E : World) (d p : Nat) (S R : SV) (K1 K2 : List Kv) (k : Kv) (A B : List (Nat × T d)) (x y : Nat × T d) (hA : K1.length = A.length) (hx : wf 3 d x.2) (hy : wf 4 d y.2) (hx6 : (tks d x.2).length ≤ 6) (hK : K1.length + K2.length ≤ 1000) (hB : A.length + B.length ≤ 1000) :
    Does Try.prog E 48 [.pointer (some ⟨p, 0, none⟩), .int .i64 (A.length : Int)] [ndC p S R, slc tKv true S (K1 ++ k :: K2), slc tNd true R (pL (A ++ x :: y :: B)), stars ((A ++ x :: y :: B).map (ndE d))]
    fun v L => v = .tuple #[] ∧ ∃ (k' : Kv) (cx cy : T d) (mid : List Kv), flat d y.2 = mid ++ k' :: flat d cy ∧ flat d cx = flat d x.2 ++ k :: mid ∧ wf 4 d cx ∧ wf 3 d cy ∧ L = [ndC p S R, slc tKv true S (K1 ++ k' :: K2), slc tNd true R (pL (A ++ (x.1, cx) :: (y.1, cy) :: B)), stars ((A ++ (x.1, cx) :: (y.1, cy) :: B).map (ndE d))] := by
  obtain ⟨qx, cx⟩ := x
  obtain ⟨qy, cy⟩ := y
  dsimp only at hx hy hx6 ⊢
  have hKl : A.length < (K1 ++ k :: K2).length := by simp; omega
  have hKg : (K1 ++ k :: K2)[A.length] = k := get_mid hA hKl
  have hP1 : A.length < (pL (A ++ (qx, cx) :: (qy, cy) :: B)).length := by rw [pL_len]; simp
  have hP2 : A.length + 1 < (pL (A ++ (qx, cx) :: (qy, cy) :: B)).length := by rw [pL_len]; simp
  have g1 := pL_get1 A B (qx, cx) (qy, cy) hP1
  have g2 := pL_get2 A B (qx, cx) (qy, cy) hP2
  have hset : ∀ g : Kv, (K1 ++ k :: K2).set A.length g = K1 ++ g :: K2 := fun g => set_mid hA
  refine Does.of Try.func48 rfl Try.ntmps48 rfl rfl fun F => ?_
  refine J.norm ?_
  refine J_seq ?_
  refine J_drawH [0,2] [0, 1, 2, 3, 4, 5, 6, 7, 8, 9, 10, 11, 12, 13, 14, 15, 16] (.quiet 0 (.quiet 1 (.quiet 2 (.quiet 3 (.quiet 4 (.quiet 5 (.quiet 6 (.quiet 7 (.quiet 8 (.quiet 9 (.quiet 10 (.quiet 11 (.quiet 12 (.quiet 13 (.quiet 14 (.quiet 15 (.quiet 16 .done))))))))))))))))) Try.mixed (by kernel_rfl) (by kernel_rfl) (by repeat (first | exact retQ_noP | refine seqQ_noP ?_ | refine blockQ_noP ?_ | refine loopQ_noP ?_ | refine scopeQ_noP ?_ | (intro _ _ _ h; cases h.1))) ?_
  refine S_q (Ent.re [0,2] rfl) rfl (Q_move rfl) rfl rfl rfl ?_
  refine S_q (Ent.re [0,2] rfl) rfl (Q_nilCheck rfl) rfl rfl rfl ?_
  refine S_q (Ent.re [0,2] rfl) rfl (Q_fa0 rfl) rfl rfl rfl ?_
  refine S_q (Ent.re [0,2] rfl) rfl (Q_ld 0 rfl rfl rfl rfl) rfl rfl rfl ?_
  refine S_q (Ent.re [0,2] rfl) rfl (Q_move rfl) rfl rfl rfl ?_
  refine S_q (Ent.re [0,2] rfl) rfl (Q_ixAt 1 A.length rfl rfl rfl rfl hP1 rfl) rfl rfl rfl ?_
  refine S_q (Ent.re [0,2] rfl) rfl (Q_ldEAt 1 A.length 0 (v := .pointer (some ⟨qx, 0, none⟩)) rfl rfl rfl rfl hP1 (by decide) (by rw [g1]; rfl)) rfl rfl rfl ?_
  refine S_q (Ent.re [0,2] rfl) rfl (Q_move rfl) rfl rfl rfl ?_
  refine S_q (Ent.re [0,2] rfl) rfl (Q_nilCheck rfl) rfl rfl rfl ?_
  refine S_q (Ent.re [0,2] rfl) rfl (Q_fa0 rfl) rfl rfl rfl ?_
  refine S_q (Ent.re [0,2] rfl) rfl (Q_ld 0 rfl rfl rfl rfl) rfl rfl rfl ?_
  refine S_q (Ent.re [0,2] rfl) rfl (Q_move rfl) rfl rfl rfl ?_
  refine S_q (Ent.re [0,2] rfl) rfl (Q_add rfl rfl (by first | exact IntWalk.i64_in _ (by omega) | exact IntWalk.u8_in _ (by omega) | exact IntWalk.u32_in _ (by omega) | exact IntWalk.u64_in _ (by omega) | rfl)) rfl rfl rfl ?_
  refine S_q (Ent.re [0,2] rfl) rfl (Q_ixAt 1 (A.length + 1) rfl rfl rfl rfl hP2 rfl) rfl rfl rfl ?_
  refine S_q (Ent.re [0,2] rfl) rfl (Q_ldEAt 1 (A.length + 1) 0 (v := .pointer (some ⟨qy, 0, none⟩)) rfl rfl rfl rfl hP2 (by decide) (by rw [g2]; rfl)) rfl rfl rfl ?_
  refine S_q (Ent.re [0,2] rfl) rfl (Q_assign rfl) rfl rfl rfl ?_
  refine S_q (Ent.re [0,2] rfl) rfl (Q_assign rfl) rfl rfl rfl ?_
  refine S_nil ?_
  refine seqQ_normal ?_
  refine J_seq ?_
  refine J.ent Ent.two_out ?_
  cases d with
  | zero =>
    refine J.leaf fun Sx Rx => J.ent (Ent.re [3, 0, 1, 2, 4, 5, 6, 7, 8] rfl) (J.leaf fun Sy Ry => ?_)
    dsimp only
    have h4 : 4 ≤ (tks 0 cy).length := (wf_ks hy).1
    have h7 : (tks 0 cy).length ≤ 7 := (wf_ks hy).2
    have h3 : 3 ≤ (tks 0 cx).length := (wf_ks hx).1
    have h6 : (tks 0 cx).length ≤ 6 := hx6
    have ex : flat 0 cx = tks 0 cx := rfl
    have ey : flat 0 cy = tks 0 cy := rfl
    rw [ex, ey]
    clear ex ey
    generalize tks 0 cx = X at *
    generalize tks 0 cy = Y at *
    obtain ⟨g, Yr, rfl⟩ := cons_of (l := Y) (by omega)
    simp only [List.length_cons] at h4 h7
    have hgl : 0 < (g :: Yr).length := Nat.succ_pos _
    refine J_drawH [3,7,8] [0, 1, 2, 3, 4, 5, 6, 7, 8, 9, 10, 11, 14, 15] (.quiet 0 (.quiet 1 (.quiet 2 (.quiet 3 (.quiet 4 (.quiet 5 (.quiet 6 (.quiet 7 (.quiet 8 (.quiet 9 (.quiet 10 (.quiet 11 (.loud 12 (.loud 13 (.quiet 14 (.quiet 15 (.loud 16 .done))))))))))))))))) Try.mixed (by kernel_rfl) (by kernel_rfl) (by repeat (first | exact retQ_noP | refine seqQ_noP ?_ | refine blockQ_noP ?_ | refine loopQ_noP ?_ | refine scopeQ_noP ?_ | (intro _ _ _ h; cases h.1))) ?_
    refine S_q (Ent.re [3,7,8] rfl) rfl (Q_move rfl) rfl rfl rfl ?_
    refine S_q (Ent.re [3,7,8] rfl) rfl (Q_move rfl) rfl rfl rfl ?_
    refine S_q (Ent.re [3,7,8] rfl) rfl (Q_nilCheck rfl) rfl rfl rfl ?_
    refine S_q (Ent.re [3,7,8] rfl) rfl (Q_fa0 rfl) rfl rfl rfl ?_
    refine S_q (Ent.re [3,7,8] rfl) rfl (Q_ld 0 rfl rfl rfl rfl) rfl rfl rfl ?_
    refine S_q (Ent.re [3,7,8] rfl) rfl (Q_move rfl) rfl rfl rfl ?_
    refine S_q (Ent.re [3,7,8] rfl) rfl (Q_nilCheck rfl) rfl rfl rfl ?_
    refine S_q (Ent.re [3,7,8] rfl) rfl (Q_fa0 rfl) rfl rfl rfl ?_
    refine S_q (Ent.re [3,7,8] rfl) rfl (Q_ld 1 rfl rfl rfl rfl) rfl rfl rfl ?_
    refine S_q (Ent.re [3,7,8] rfl) rfl (Q_move rfl) rfl rfl rfl ?_
    refine S_q (Ent.re [3,7,8] rfl) rfl (Q_ixAt 2 A.length rfl rfl rfl rfl hKl rfl) rfl rfl rfl ?_
    refine S_q (Ent.re [3,7,8] rfl) rfl (Q_ldEAAt 2 A.length 0 (vs := kvV k) rfl rfl rfl rfl hKl (by decide) (by rw [hKg]; rfl)) rfl rfl rfl ?_
    refine S_o rfl rfl rfl rfl (O_litP (τ := tKv) (m := 1) (sz := 2) [k] rfl rfl rfl rfl rfl rfl (by decide) (fun U => ⟨_, fun _ => ⟨Ent.reN [4,8,9] rfl, Ent.refl _⟩, ?_⟩))
    refine JS.norm ?_
    refine S_o rfl rfl rfl rfl (O_app (τ := tKv) 5 rfl (fun w h => h.rd 0 rfl) rfl rfl rfl rfl (by simp only [List.length_singleton]; omega) (by decide) (fun V => ⟨_, fun _ => ⟨Ent.reN [4,8,9] rfl, Ent.refl _⟩, ?_⟩))
    refine JS.norm ?_
    refine S_q (Ent.re [4,8,9] rfl) rfl (Q_nilCheck rfl) rfl rfl rfl ?_
    refine S_q (Ent.re [4,8,9] rfl) rfl (Q_fa0 rfl) rfl rfl rfl ?_
    refine S_s rfl rfl rfl (O_st1 4 rfl rfl rfl rfl rfl ⟨[], free_no (by kernel_rfl), ?_⟩)
    refine JS.norm ?_
    refine S_nil ?_
    refine seqQ_normal ?_
    refine J_seq ?_
    refine J_drawH [8,1,2,9] [0, 1, 2, 3, 4, 5, 6, 7, 8, 9, 10, 11] (.quiet 0 (.quiet 1 (.quiet 2 (.quiet 3 (.quiet 4 (.quiet 5 (.quiet 6 (.quiet 7 (.quiet 8 (.quiet 9 (.quiet 10 (.quiet 11 (.loud 12 .done))))))))))))) Try.mixed (by kernel_rfl) (by kernel_rfl) (by repeat (first | exact retQ_noP | refine seqQ_noP ?_ | refine blockQ_noP ?_ | refine loopQ_noP ?_ | refine scopeQ_noP ?_ | (intro _ _ _ h; cases h.1))) ?_
    refine S_q (Ent.re [8,1,2,9] rfl) rfl (Q_move rfl) rfl rfl rfl ?_
    refine S_q (Ent.re [8,1,2,9] rfl) rfl (Q_nilCheck rfl) rfl rfl rfl ?_
    refine S_q (Ent.re [8,1,2,9] rfl) rfl (Q_fa0 rfl) rfl rfl rfl ?_
    refine S_q (Ent.re [8,1,2,9] rfl) rfl (Q_ld 0 rfl rfl rfl rfl) rfl rfl rfl ?_
    refine S_q (Ent.re [8,1,2,9] rfl) rfl (Q_move rfl) rfl rfl rfl ?_
    refine S_q (Ent.re [8,1,2,9] rfl) rfl (Q_move rfl) rfl rfl rfl ?_
    refine S_q (Ent.re [8,1,2,9] rfl) rfl (Q_nilCheck rfl) rfl rfl rfl ?_
    refine S_q (Ent.re [8,1,2,9] rfl) rfl (Q_fa0 rfl) rfl rfl rfl ?_
    refine S_q (Ent.re [8,1,2,9] rfl) rfl (Q_ld 1 rfl rfl rfl rfl) rfl rfl rfl ?_
    refine S_q (Ent.re [8,1,2,9] rfl) rfl (Q_ixAt 2 0 rfl rfl rfl rfl hgl rfl) rfl rfl rfl ?_
    refine S_q (Ent.re [8,1,2,9] rfl) rfl (Q_ldEAAt 2 0 0 (vs := kvV g) rfl rfl rfl rfl hgl (by decide) rfl) rfl rfl rfl ?_
    refine S_q (Ent.re [8,1,2,9] rfl) rfl (Q_ixAt 3 A.length rfl rfl rfl rfl hKl rfl) rfl rfl rfl ?_
    refine S_s rfl rfl rfl (O_stE 9 A.length 0 g rfl rfl rfl rfl rfl rfl (by intro c hc; simp [Value.cells] at hc; rcases hc with rfl | rfl <;> rfl) hKl (Nat.le_refl 2) (by simp [tKv, Value.cells]) ⟨[], free_no (by kernel_rfl), ?_⟩)
    refine JS.norm ?_
    refine S_nil ?_
    refine seqQ_normal ?_
    refine J_seq ?_
    rw [hset]
    refine J_region ?_
    refine L_q (Q_move rfl) rfl rfl rfl ?_
    refine L_q (Q_move rfl) rfl rfl rfl ?_
    refine L_q (Q_nilCheck rfl) rfl rfl rfl ?_
    refine L_q (Q_fa0 rfl) rfl rfl rfl ?_
    refine L_q (Q_ld 1 rfl rfl rfl rfl) rfl rfl rfl ?_
    refine L_o rfl rfl rfl (O_call [2] [0,1,3,4,5,6,7,8,9,10,11] (kvdel_ok E Sy (g :: Yr) 0 1 (by decide) (by simp) (by simp; omega)) rfl rfl ?_)
    rintro _ _ ⟨Sy2, rfl, rfl⟩
    refine JL.norm ?_
    refine L_q (Q_nilCheck rfl) rfl rfl rfl ?_
    refine L_q (Q_fa0 rfl) rfl rfl rfl ?_
    refine L_s rfl rfl (O_st1 2 rfl rfl rfl rfl rfl ?_)
    refine JL.norm ?_
    refine JL_nil ?_
    refine seqQ_normal ?_
    refine J_seq ?_
    refine J_region ?_
    refine L_q (Q_move rfl) rfl rfl rfl ?_
    refine L_o rfl rfl rfl (O_call [2,3] [0,1,4,5,6,7,8,9,10,11] (leaf_ok E qy _ Ry []) rfl rfl ?_)
    rintro _ _ ⟨rfl, rfl⟩
    refine JL.norm ?_
    refine L_q ((Q_not rfl).as (v' := .bool false) rfl) rfl rfl rfl ?_
    refine JL_nil ?_
    refine seqQ_normal ?_
    refine J_condF rfl ?_
    refine J_skip ?_
    refine retQ_normal [] _ .nil ⟨rfl, g, (X ++ [k] : List Kv), (Yr : List Kv), [], by simp [flat], by simp [flat], ⟨by show 4 ≤ (X ++ [k]).length; simp; omega, by show (X ++ [k]).length ≤ 7; simp; omega⟩, ⟨by show 3 ≤ Yr.length; omega, by show Yr.length ≤ 7; omega⟩, rfl⟩ ?_
    refine (Ent.re [4, 5, 6, 0, 2, 1, 7, 8, 9, 10, 11] rfl).trans ?_
    refine (Ent.leafA (t := (X ++ [k] : List Kv))).trans ?_
    refine (Ent.re [1, 2, 3, 0, 4, 5, 6, 7, 8] rfl).trans ?_
    refine (Ent.leafA (t := (Yr : List Kv))).trans ?_
    exact (Ent.re [1, 0, 2, 3, 4, 5, 6] rfl).trans (Ent.two_back2 (d := 0) (x := (qx, (X ++ [k] : List Kv))) (y := (qy, (Yr : List Kv))) (pL_same (d := 0) A B (qx, cx) (qy, cy) _ _))
  | succ d =>
    obtain ⟨kx, ccx⟩ := cx
    obtain ⟨ky, ccy⟩ := cy
    refine J.inner fun Sx Rx exs hexs => J.ent (Ent.re [4, 0, 1, 2, 3, 5, 6, 7, 8, 9] rfl) (J.inner fun Sy Ry eys heys => ?_)
    obtain ⟨h3, _, hcx, hwx⟩ := hx
    obtain ⟨h4, h7, hcy, hwy⟩ := hy
    have h6 : kx.length ≤ 6 := hx6
    dsimp only at h4 h7 h3 hcx hcy hwx hwy hexs heys ⊢
    obtain ⟨g, Yr, rfl⟩ := cons_of (l := ky) (by omega)
    obtain ⟨eg, es, rfl⟩ := cons_of (l := eys) (by rw [← heys, List.length_map] at hcy; omega)
    subst hexs heys
    simp only [List.length_cons] at h4 h7
    have hel : es.length = Yr.length + 1 := by simpa using hcy
    have hex : exs.length = kx.length + 1 := by simpa using hcx
    have hgl : 0 < (g :: Yr).length := Nat.succ_pos _
    have hpg : 0 < (pL (eg :: es)).length := Nat.succ_pos _
    have hlf := leaf_ok E qy Sy Ry (pL (eg :: es))
    rw [show decide (((pL (eg :: es)).length : Int) = 0) = false from decide_eq_false (by omega)] at hlf
    refine J_drawH [4,9,10] [0, 1, 2, 3, 4, 5, 6, 7, 8, 9, 10, 11, 14, 15] (.quiet 0 (.quiet 1 (.quiet 2 (.quiet 3 (.quiet 4 (.quiet 5 (.quiet 6 (.quiet 7 (.quiet 8 (.quiet 9 (.quiet 10 (.quiet 11 (.loud 12 (.loud 13 (.quiet 14 (.quiet 15 (.loud 16 .done))))))))))))))))) Try.mixed (by kernel_rfl) (by kernel_rfl) (by repeat (first | exact retQ_noP | refine seqQ_noP ?_ | refine blockQ_noP ?_ | refine loopQ_noP ?_ | refine scopeQ_noP ?_ | (intro _ _ _ h; cases h.1))) ?_
    refine S_q (Ent.re [4,9,10] rfl) rfl (Q_move rfl) rfl rfl rfl ?_
    refine S_q (Ent.re [4,9,10] rfl) rfl (Q_move rfl) rfl rfl rfl ?_
    refine S_q (Ent.re [4,9,10] rfl) rfl (Q_nilCheck rfl) rfl rfl rfl ?_
    refine S_q (Ent.re [4,9,10] rfl) rfl (Q_fa0 rfl) rfl rfl rfl ?_
    refine S_q (Ent.re [4,9,10] rfl) rfl (Q_ld 0 rfl rfl rfl rfl) rfl rfl rfl ?_
    refine S_q (Ent.re [4,9,10] rfl) rfl (Q_move rfl) rfl rfl rfl ?_
    refine S_q (Ent.re [4,9,10] rfl) rfl (Q_nilCheck rfl) rfl rfl rfl ?_
    refine S_q (Ent.re [4,9,10] rfl) rfl (Q_fa0 rfl) rfl rfl rfl ?_
    refine S_q (Ent.re [4,9,10] rfl) rfl (Q_ld 1 rfl rfl rfl rfl) rfl rfl rfl ?_
    refine S_q (Ent.re [4,9,10] rfl) rfl (Q_move rfl) rfl rfl rfl ?_
    refine S_q (Ent.re [4,9,10] rfl) rfl (Q_ixAt 2 A.length rfl rfl rfl rfl hKl rfl) rfl rfl rfl ?_
    refine S_q (Ent.re [4,9,10] rfl) rfl (Q_ldEAAt 2 A.length 0 (vs := kvV k) rfl rfl rfl rfl hKl (by decide) (by rw [hKg]; rfl)) rfl rfl rfl ?_
    refine S_o rfl rfl rfl rfl (O_litP (τ := tKv) (m := 1) (sz := 2) [k] rfl rfl rfl rfl rfl rfl (by decide) (fun U => ⟨_, fun _ => ⟨Ent.reN [5,10,11] rfl, Ent.refl _⟩, ?_⟩))
    refine JS.norm ?_
    refine S_o rfl rfl rfl rfl (O_app (τ := tKv) 6 rfl (fun w h => h.rd 0 rfl) rfl rfl rfl rfl (by simp only [List.length_singleton]; omega) (by decide) (fun V => ⟨_, fun _ => ⟨Ent.reN [5,10,11] rfl, Ent.refl _⟩, ?_⟩))
    refine JS.norm ?_
    refine S_q (Ent.re [5,10,11] rfl) rfl (Q_nilCheck rfl) rfl rfl rfl ?_
    refine S_q (Ent.re [5,10,11] rfl) rfl (Q_fa0 rfl) rfl rfl rfl ?_
    refine S_s rfl rfl rfl (O_st1 5 rfl rfl rfl rfl rfl ⟨[], free_no (by kernel_rfl), ?_⟩)
    refine JS.norm ?_
    refine S_nil ?_
    refine seqQ_normal ?_
    refine J_seq ?_
    refine J_drawH [10,1,2,11] [0, 1, 2, 3, 4, 5, 6, 7, 8, 9, 10, 11] (.quiet 0 (.quiet 1 (.quiet 2 (.quiet 3 (.quiet 4 (.quiet 5 (.quiet 6 (.quiet 7 (.quiet 8 (.quiet 9 (.quiet 10 (.quiet 11 (.loud 12 .done))))))))))))) Try.mixed (by kernel_rfl) (by kernel_rfl) (by repeat (first | exact retQ_noP | refine seqQ_noP ?_ | refine blockQ_noP ?_ | refine loopQ_noP ?_ | refine scopeQ_noP ?_ | (intro _ _ _ h; cases h.1))) ?_
    refine S_q (Ent.re [10,1,2,11] rfl) rfl (Q_move rfl) rfl rfl rfl ?_
    refine S_q (Ent.re [10,1,2,11] rfl) rfl (Q_nilCheck rfl) rfl rfl rfl ?_
    refine S_q (Ent.re [10,1,2,11] rfl) rfl (Q_fa0 rfl) rfl rfl rfl ?_
    refine S_q (Ent.re [10,1,2,11] rfl) rfl (Q_ld 0 rfl rfl rfl rfl) rfl rfl rfl ?_
    refine S_q (Ent.re [10,1,2,11] rfl) rfl (Q_move rfl) rfl rfl rfl ?_
    refine S_q (Ent.re [10,1,2,11] rfl) rfl (Q_move rfl) rfl rfl rfl ?_
    refine S_q (Ent.re [10,1,2,11] rfl) rfl (Q_nilCheck rfl) rfl rfl rfl ?_
    refine S_q (Ent.re [10,1,2,11] rfl) rfl (Q_fa0 rfl) rfl rfl rfl ?_
    refine S_q (Ent.re [10,1,2,11] rfl) rfl (Q_ld 1 rfl rfl rfl rfl) rfl rfl rfl ?_
    refine S_q (Ent.re [10,1,2,11] rfl) rfl (Q_ixAt 2 0 rfl rfl rfl rfl hgl rfl) rfl rfl rfl ?_
    refine S_q (Ent.re [10,1,2,11] rfl) rfl (Q_ldEAAt 2 0 0 (vs := kvV g) rfl rfl rfl rfl hgl (by decide) rfl) rfl rfl rfl ?_
    refine S_q (Ent.re [10,1,2,11] rfl) rfl (Q_ixAt 3 A.length rfl rfl rfl rfl hKl rfl) rfl rfl rfl ?_
    refine S_s rfl rfl rfl (O_stE 11 A.length 0 g rfl rfl rfl rfl rfl rfl (by intro c hc; simp [Value.cells] at hc; rcases hc with rfl | rfl <;> rfl) hKl (Nat.le_refl 2) (by simp [tKv, Value.cells]) ⟨[], free_no (by kernel_rfl), ?_⟩)
    refine JS.norm ?_
    refine S_nil ?_
    refine seqQ_normal ?_
    refine J_seq ?_
    rw [hset]
    refine J_region ?_
    refine L_q (Q_move rfl) rfl rfl rfl ?_
    refine L_q (Q_move rfl) rfl rfl rfl ?_
    refine L_q (Q_nilCheck rfl) rfl rfl rfl ?_
    refine L_q (Q_fa0 rfl) rfl rfl rfl ?_
    refine L_q (Q_ld 1 rfl rfl rfl rfl) rfl rfl rfl ?_
    refine L_o rfl rfl rfl (O_call [2] [0,1,3,4,5,6,7,8,9,10,11,12,13] (kvdel_ok E Sy (g :: Yr) 0 1 (by decide) (by simp) (by simp; omega)) rfl rfl ?_)
    rintro _ _ ⟨Sy2, rfl, rfl⟩
    refine JL.norm ?_
    refine L_q (Q_nilCheck rfl) rfl rfl rfl ?_
    refine L_q (Q_fa0 rfl) rfl rfl rfl ?_
    refine L_s rfl rfl (O_st1 2 rfl rfl rfl rfl rfl ?_)
    refine JL.norm ?_
    refine JL_nil ?_
    refine seqQ_normal ?_
    refine J_seq ?_
    refine J_region ?_
    refine L_q (Q_move rfl) rfl rfl rfl ?_
    refine L_o rfl rfl rfl (O_call [2,3] [0,1,4,5,6,7,8,9,10,11,12,13] (leaf_ok E qy Sy2 Ry (pL (eg :: es))) rfl rfl ?_)
    rintro _ _ ⟨rfl, rfl⟩
    refine JL.norm ?_
    refine L_q ((Q_not rfl).as (v' := .bool true) (congrArg Value.bool (by rw [decide_eq_false (by omega)]; rfl))) rfl rfl rfl ?_
    refine JL_nil ?_
    refine seqQ_normal ?_
    refine J_condT rfl ?_
    refine J_seq ?_
    refine J.ent (Ent.re [0, 1, 2, 4, 5, 6, 7, 8, 9, 10, 11, 12, 13] rfl) ?_
    refine J_drawH [4,0,1] [0, 1, 2, 3, 4, 5, 6, 7, 8, 9, 10, 13, 14] (.quiet 0 (.quiet 1 (.quiet 2 (.quiet 3 (.quiet 4 (.quiet 5 (.quiet 6 (.quiet 7 (.quiet 8 (.quiet 9 (.quiet 10 (.loud 11 (.loud 12 (.quiet 13 (.quiet 14 (.loud 15 .done)))))))))))))))) Try.mixed (by kernel_rfl) (by kernel_rfl) (by repeat (first | exact retQ_noP | refine seqQ_noP ?_ | refine blockQ_noP ?_ | refine loopQ_noP ?_ | refine scopeQ_noP ?_ | (intro _ _ _ h; cases h.1))) ?_
    refine S_q (Ent.re [4,0,1] rfl) rfl (Q_move rfl) rfl rfl rfl ?_
    refine S_q (Ent.re [4,0,1] rfl) rfl (Q_move rfl) rfl rfl rfl ?_
    refine S_q (Ent.re [4,0,1] rfl) rfl (Q_nilCheck rfl) rfl rfl rfl ?_
    refine S_q (Ent.re [4,0,1] rfl) rfl (Q_fa0 rfl) rfl rfl rfl ?_
    refine S_q (Ent.re [4,0,1] rfl) rfl (Q_ld 0 rfl rfl rfl rfl) rfl rfl rfl ?_
    refine S_q (Ent.re [4,0,1] rfl) rfl (Q_move rfl) rfl rfl rfl ?_
    refine S_q (Ent.re [4,0,1] rfl) rfl (Q_nilCheck rfl) rfl rfl rfl ?_
    refine S_q (Ent.re [4,0,1] rfl) rfl (Q_fa0 rfl) rfl rfl rfl ?_
    refine S_q (Ent.re [4,0,1] rfl) rfl (Q_ld 1 rfl rfl rfl rfl) rfl rfl rfl ?_
    refine S_q (Ent.re [4,0,1] rfl) rfl (Q_ixAt 2 0 rfl rfl rfl rfl hpg rfl) rfl rfl rfl ?_
    refine S_q (Ent.re [4,0,1] rfl) rfl (Q_ldEAt 2 0 0 (v := .pointer (some ⟨eg.1, 0, none⟩)) rfl rfl rfl rfl hpg (by decide) rfl) rfl rfl rfl ?_
    refine S_o rfl rfl rfl rfl (O_litP (τ := tNd) (m := 1) (sz := 1) [some eg.1] rfl rfl rfl rfl rfl rfl (by decide) (fun U => ⟨_, fun _ => ⟨Ent.reN [5,1,2] rfl, Ent.refl _⟩, ?_⟩))
    refine JS.norm ?_
    refine S_o rfl rfl rfl rfl (O_app (τ := tNd) 7 rfl (fun w h => h.rd 0 rfl) rfl rfl rfl rfl (by simp only [List.length_singleton, List.length_map]; omega) (by decide) (fun V => ⟨_, fun _ => ⟨Ent.reN [5,1,2] rfl, Ent.refl _⟩, ?_⟩))
    refine JS.norm ?_
    refine S_q (Ent.re [5,1,2] rfl) rfl (Q_nilCheck rfl) rfl rfl rfl ?_
    refine S_q (Ent.re [5,1,2] rfl) rfl (Q_fa0 rfl) rfl rfl rfl ?_
    refine S_s rfl rfl rfl (O_st1 5 rfl rfl rfl rfl rfl ⟨[], free_no (by kernel_rfl), ?_⟩)
    refine JS.norm ?_
    refine S_nil ?_
    refine seqQ_normal ?_
    refine J_region ?_
    refine L_q (Q_move rfl) rfl rfl rfl ?_
    refine L_q (Q_move rfl) rfl rfl rfl ?_
    refine L_q (Q_nilCheck rfl) rfl rfl rfl ?_
    refine L_q (Q_fa0 rfl) rfl rfl rfl ?_
    refine L_q (Q_ld 1 rfl rfl rfl rfl) rfl rfl rfl ?_
    refine L_o rfl rfl rfl (O_call [2] [0,1,3,4,5,6,7,8,9,10,11,12,13] (nddel_ok E Ry (pL (eg :: es)) 0 1 (by decide) (by simp) (by simp [pL]; omega)) rfl rfl ?_)
    rintro _ _ ⟨Ry2, rfl, rfl⟩
    refine JL.norm ?_
    refine L_q (Q_nilCheck rfl) rfl rfl rfl ?_
    refine L_q (Q_fa0 rfl) rfl rfl rfl ?_
    refine L_s rfl rfl (O_st1 2 rfl rfl rfl rfl rfl ?_)
    refine JL.norm ?_
    refine JL_nil ?_
    have hj2 : flat (d + 1) (kx ++ [k], (exs ++ [eg]).map (·.2)) = flat (d + 1) (kx, exs.map (·.2)) ++ k :: flat d eg.2 := by
      simp only [flat, List.map_append, List.map_cons, List.map_nil]
      have := ileave_join kx [] k ((exs.map (·.2)).map (flat d)) [flat d eg.2] (by simp; omega)
      rw [this]; simp [ileave]
    have hj1 : flat (d + 1) (g :: Yr, (eg :: es).map (·.2)) = flat d eg.2 ++ g :: flat (d + 1) (Yr, es.map (·.2)) := by simp [flat, ileave]
    refine retQ_normal [] _ .nil ⟨rfl, g, (kx ++ [k], (exs ++ [eg]).map (·.2)), (Yr, es.map (·.2)), _, hj1, hj2, ⟨by show 4 ≤ (kx ++ [k]).length; simp; omega, by show (kx ++ [k]).length ≤ 7; simp; omega, by simp; omega, fun c hc => by
      simp only [List.map_append, List.mem_append, List.map_cons, List.map_nil, List.mem_singleton] at hc
      rcases hc with hc | rfl
      · exact hwx _ hc
      · exact hwy _ (by simp)⟩, ⟨by show 3 ≤ Yr.length; omega, by show Yr.length ≤ 7; omega, by simpa using hel, fun c hc => hwy c (by simp only [List.map_cons, List.mem_cons]; exact .inr hc)⟩, rfl⟩ ?_
    rw [show (eg :: es).map (ndE d) = [eg].map (ndE d) ++ es.map (ndE d) from rfl, show (exs.map fun e => some e.1) ++ [some eg.1] = (exs ++ [eg]).map fun e => some e.1 from by simp]
    refine (Ent.re [4, 8, 0, 2, 3, 5, 6, 7, 9, 10, 11, 12, 13] rfl).trans (Ent.stars_split.trans ?_)
    refine (Ent.re [2, 0, 1, 3, 4, 5, 6, 7, 8, 9, 10, 11, 12, 13] rfl).trans (Ent.stars_join.trans ?_)
    rw [← List.map_append]
    refine (Ent.re [5, 6, 7, 0, 3, 4, 2, 1, 8, 9, 10, 11, 12] rfl).trans ?_
    refine (Ent.innerA (es := exs ++ [eg]) (K := kx ++ [k]) (C := (exs ++ [eg]).map (·.2)) rfl).trans ?_
    refine (Ent.re [1, 2, 3, 4, 0, 5, 6, 7, 8, 9] rfl).trans ?_
    refine (Ent.innerA (es := es) (K := Yr) (C := es.map (·.2)) rfl).trans ?_
    exact (Ent.re [1, 0, 2, 3, 4, 5, 6] rfl).trans (Ent.two_back2 (d := d + 1) (x := (qx, ((kx ++ [k], (exs ++ [eg]).map (·.2)) : T (d + 1)))) (y := (qy, ((Yr, es.map (·.2)) : T (d + 1)))) (pL_same (d := d + 1) A B (qx, _) (qy, _) _ _))
end Go.Proofs
