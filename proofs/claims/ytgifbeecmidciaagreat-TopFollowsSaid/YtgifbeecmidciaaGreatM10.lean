/- Part 10 of the texts below the row: Tree6b, Tree7, Tree8. -/
import Derived.Test.YtgifbeecmidciaaGreatM9
/- A pair moved from one child to its neighbour. -/
set_option autoImplicit false
namespace Go.Proofs.Bt
open Go.SL
attribute [local irreducible] J JL QOp JOp seqQ blockQ loopQ retQ slc cel hex star pur stars Does RV Ent pAt scopeQ
attribute [local irreducible] nodeA nodeX treeA
theorem fromRight_ok (E : World) (d p : Nat) (S R : SV) (K1 K2 : List Kv) (k : Kv) (A B : List (Nat × T d)) (x y : Nat × T d) (hA : K1.length = A.length) (hx : wf 3 d x.2) (hy : wf 4 d y.2) (hx6 : (tks d x.2).length ≤ 6) (hK : K1.length + K2.length ≤ 1000) (hB : A.length + B.length ≤ 1000) :
 Does Tryz.prog E 169 [.pointer (some ⟨p, 0, none⟩), .int .i64 (A.length : Int)] [ndC p S R, slc tKv true S (K1 ++ k :: K2), slc tNd true R (pL (A ++ x :: y :: B)), stars ((A ++ x :: y :: B).map (ndE d))]
 fun v L => v = .tuple #[] ∧ ∃ (k' : Kv) (cx cy : T d) (mid : List Kv), flat d y.2 = mid ++ k' :: flat d cy ∧ flat d cx = flat d x.2 ++ k :: mid ∧ wf 4 d cx ∧ wf 3 d cy ∧ L = [ndC p S R, slc tKv true S (K1 ++ k' :: K2), slc tNd true R (pL (A ++ (x.1, cx) :: (y.1, cy) :: B)), stars ((A ++ (x.1, cx) :: (y.1, cy) :: B).map (ndE d))] := by
 obtain ⟨qx, cx⟩ := x
 obtain ⟨qy, cy⟩ := y
 dsimp only at hx hy hx6 ⊢
 have hKl : A.length < (K1 ++ k :: K2).length := by simp; omega
 have hKg : (K1 ++ k :: K2)[A.length] = k := get_mid hA hKl
 have hP1 : A.length < (pL (A ++ (qx, cx) :: (qy, cy) :: B)).length := by rw [pL_len]; simp
 have hP2 : A.length + 1 < (pL (A ++ (qx, cx) :: (qy, cy) :: B)).length := by rw [pL_len]; simp
 have g1 := pL_get1 A B (qx, cx) (qy, cy) hP1
 have g2 := pL_get2 A B (qx, cx) (qy, cy) hP2
 have hset : ∀ g : Kv, (K1 ++ k :: K2).set A.length g = K1 ++ g :: K2 := fun g => set_mid hA
 refine Does.of Tryz.func169 rfl Tryz.ntmps169 rfl rfl fun F => ?_
 refine J.norm ?_
 refine J_seq ?_
 refine DH [0,2] [0,1,2,3,4,5,6,7,8,9,10,11,12,13,14,15,16] (.quiet 0 (.quiet 1 (.quiet 2 (.quiet 3 (.quiet 4 (.quiet 5 (.quiet 6 (.quiet 7 (.quiet 8 (.quiet 9 (.quiet 10 (.quiet 11 (.quiet 12 (.quiet 13 (.quiet 14 (.quiet 15 (.quiet 16 .done))))))))))))))))) Tryz.mixed ?_
 refine Sq (Ent.re [0,2] rfl) rfl (Q_move rfl) ?_
 refine Sq (Ent.re [0,2] rfl) rfl (Q_nilCheck rfl) ?_
 refine Sq (Ent.re [0,2] rfl) rfl (Q_fa0 rfl) ?_
 refine Sq (Ent.re [0,2] rfl) rfl (Q_ld 0 rfl rfl rfl rfl) ?_
 refine Sq (Ent.re [0,2] rfl) rfl (Q_move rfl) ?_
 refine Sq (Ent.re [0,2] rfl) rfl (Q_ixAt 1 A.length rfl rfl rfl rfl hP1 rfl) ?_
 refine Sq (Ent.re [0,2] rfl) rfl (Q_ldEAt 1 A.length 0 (v := .pointer (some ⟨qx, 0, none⟩)) rfl rfl rfl rfl hP1 (by decide) (by rw [g1]; rfl)) ?_
 refine Sq (Ent.re [0,2] rfl) rfl (Q_move rfl) ?_
 refine Sq (Ent.re [0,2] rfl) rfl (Q_nilCheck rfl) ?_
 refine Sq (Ent.re [0,2] rfl) rfl (Q_fa0 rfl) ?_
 refine Sq (Ent.re [0,2] rfl) rfl (Q_ld 0 rfl rfl rfl rfl) ?_
 refine Sq (Ent.re [0,2] rfl) rfl (Q_move rfl) ?_
 refine Sq (Ent.re [0,2] rfl) rfl (Q_add rfl rfl (by first | exact IntWalk.i64_in _ (by omega) | exact IntWalk.u8_in _ (by omega) | exact IntWalk.u32_in _ (by omega) | exact IntWalk.u64_in _ (by omega) | rfl)) ?_
 refine Sq (Ent.re [0,2] rfl) rfl (Q_ixAt 1 (A.length + 1) rfl rfl rfl rfl hP2 rfl) ?_
 refine Sq (Ent.re [0,2] rfl) rfl (Q_ldEAt 1 (A.length + 1) 0 (v := .pointer (some ⟨qy, 0, none⟩)) rfl rfl rfl rfl hP2 (by decide) (by rw [g2]; rfl)) ?_
 refine Sq (Ent.re [0,2] rfl) rfl (Q_assign rfl) ?_
 refine Sq (Ent.re [0,2] rfl) rfl (Q_assign rfl) ?_
 refine S_nil ?_
 refine seqQ_normal ?_
 refine J_seq ?_
 refine J.ent Ent.two_out ?_
 cases d with
 | zero =>
  refine J.leaf fun Sx Rx => J.ent (Ent.re [3,0,1,2,4,5,6,7,8] rfl) (J.leaf fun Sy Ry => ?_)
  dsimp only
  have h4 : 4 ≤ (tks 0 cy).length := (wf_ks hy).1
  have h7 : (tks 0 cy).length ≤ 7 := (wf_ks hy).2
  have h3 : 3 ≤ (tks 0 cx).length := (wf_ks hx).1
  have h6 : (tks 0 cx).length ≤ 6 := hx6
  have ex : flat 0 cx = tks 0 cx := rfl
  have ey : flat 0 cy = tks 0 cy := rfl
  rw [ex, ey]
  clear ex ey
  generalize tks 0 cx = X at *
  generalize tks 0 cy = Y at *
  obtain ⟨g, Yr, rfl⟩ := cons_of (l := Y) (by omega)
  simp only [List.length_cons] at h4 h7
  have hgl : 0 < (g :: Yr).length := Nat.succ_pos _
  refine DH [3,7,8] [0,1,2,3,4,5,6,7,8,9,10,11,14,15] (.quiet 0 (.quiet 1 (.quiet 2 (.quiet 3 (.quiet 4 (.quiet 5 (.quiet 6 (.quiet 7 (.quiet 8 (.quiet 9 (.quiet 10 (.quiet 11 (.loud 12 (.loud 13 (.quiet 14 (.quiet 15 (.loud 16 .done))))))))))))))))) Tryz.mixed ?_
  refine Sq (Ent.re [3,7,8] rfl) rfl (Q_move rfl) ?_
  refine Sq (Ent.re [3,7,8] rfl) rfl (Q_move rfl) ?_
  refine Sq (Ent.re [3,7,8] rfl) rfl (Q_nilCheck rfl) ?_
  refine Sq (Ent.re [3,7,8] rfl) rfl (Q_fa0 rfl) ?_
  refine Sq (Ent.re [3,7,8] rfl) rfl (Q_ld 0 rfl rfl rfl rfl) ?_
  refine Sq (Ent.re [3,7,8] rfl) rfl (Q_move rfl) ?_
  refine Sq (Ent.re [3,7,8] rfl) rfl (Q_nilCheck rfl) ?_
  refine Sq (Ent.re [3,7,8] rfl) rfl (Q_fa0 rfl) ?_
  refine Sq (Ent.re [3,7,8] rfl) rfl (Q_ld 1 rfl rfl rfl rfl) ?_
  refine Sq (Ent.re [3,7,8] rfl) rfl (Q_move rfl) ?_
  refine Sq (Ent.re [3,7,8] rfl) rfl (Q_ixAt 2 A.length rfl rfl rfl rfl hKl rfl) ?_
  refine Sq (Ent.re [3,7,8] rfl) rfl (Q_ldEAAt 2 A.length 0 (vs := kvV k) rfl rfl rfl rfl hKl (by decide) (by rw [hKg]; rfl)) ?_
  refine S_o rfl rfl rfl rfl (O_litP (τ := tKv) (m := 1) (sz := 2) [k] rfl rfl rfl rfl rfl rfl (by decide) (fun U => ⟨_, fun _ => ⟨Ent.reN [4,8,9] rfl, Ent.refl _⟩, ?_⟩))
  refine JS.norm ?_
  refine S_o rfl rfl rfl rfl (O_app (τ := tKv) 5 rfl (fun w h => h.rd 0 rfl) rfl rfl rfl rfl (by simp only [List.length_singleton]; omega) (by decide) (fun V => ⟨_, fun _ => ⟨Ent.reN [4,8,9] rfl, Ent.refl _⟩, ?_⟩))
  refine JS.norm ?_
  refine Sq (Ent.re [4,8,9] rfl) rfl (Q_nilCheck rfl) ?_
  refine Sq (Ent.re [4,8,9] rfl) rfl (Q_fa0 rfl) ?_
  refine S_s rfl rfl rfl (O_st1 4 rfl rfl rfl rfl rfl ⟨[], free_no (by kernel_rfl), ?_⟩)
  refine JS.norm ?_
  refine S_nil ?_
  refine seqQ_normal ?_
  refine J_seq ?_
  refine DH [8,1,2,9] [0,1,2,3,4,5,6,7,8,9,10,11] (.quiet 0 (.quiet 1 (.quiet 2 (.quiet 3 (.quiet 4 (.quiet 5 (.quiet 6 (.quiet 7 (.quiet 8 (.quiet 9 (.quiet 10 (.quiet 11 (.loud 12 .done))))))))))))) Tryz.mixed ?_
  refine Sq (Ent.re [8,1,2,9] rfl) rfl (Q_move rfl) ?_
  refine Sq (Ent.re [8,1,2,9] rfl) rfl (Q_nilCheck rfl) ?_
  refine Sq (Ent.re [8,1,2,9] rfl) rfl (Q_fa0 rfl) ?_
  refine Sq (Ent.re [8,1,2,9] rfl) rfl (Q_ld 0 rfl rfl rfl rfl) ?_
  refine Sq (Ent.re [8,1,2,9] rfl) rfl (Q_move rfl) ?_
  refine Sq (Ent.re [8,1,2,9] rfl) rfl (Q_move rfl) ?_
  refine Sq (Ent.re [8,1,2,9] rfl) rfl (Q_nilCheck rfl) ?_
  refine Sq (Ent.re [8,1,2,9] rfl) rfl (Q_fa0 rfl) ?_
  refine Sq (Ent.re [8,1,2,9] rfl) rfl (Q_ld 1 rfl rfl rfl rfl) ?_
  refine Sq (Ent.re [8,1,2,9] rfl) rfl (Q_ixAt 2 0 rfl rfl rfl rfl hgl rfl) ?_
  refine Sq (Ent.re [8,1,2,9] rfl) rfl (Q_ldEAAt 2 0 0 (vs := kvV g) rfl rfl rfl rfl hgl (by decide) rfl) ?_
  refine Sq (Ent.re [8,1,2,9] rfl) rfl (Q_ixAt 3 A.length rfl rfl rfl rfl hKl rfl) ?_
  refine S_s rfl rfl rfl (O_stE 9 A.length 0 g rfl rfl rfl rfl rfl rfl (by intro c hc; simp [Value.cells] at hc; rcases hc with rfl | rfl <;> rfl) hKl (Nat.le_refl 2) (by simp [tKv, Value.cells]) ⟨[], free_no (by kernel_rfl), ?_⟩)
  refine JS.norm ?_
  refine S_nil ?_
  refine seqQ_normal ?_
  refine J_seq ?_
  rw [hset]
  refine J_region ?_
  refine Lq (Q_move rfl) ?_
  refine Lq (Q_move rfl) ?_
  refine Lq (Q_nilCheck rfl) ?_
  refine Lq (Q_fa0 rfl) ?_
  refine Lq (Q_ld 1 rfl rfl rfl rfl) ?_
  refine L_o rfl rfl rfl (O_call [2] [0,1,3,4,5,6,7,8,9,10,11] (kvdel_ok E Sy (g :: Yr) 0 1 (by decide) (by simp) (by simp; omega)) rfl rfl ?_)
  rintro _ _ ⟨Sy2, rfl, rfl⟩
  refine JL.norm ?_
  refine Lq (Q_nilCheck rfl) ?_
  refine Lq (Q_fa0 rfl) ?_
  refine L_s rfl rfl (O_st1 2 rfl rfl rfl rfl rfl ?_)
  refine JL.norm ?_
  refine Ln ?_
  refine Sr ?_
  refine Lq (Q_move rfl) ?_
  refine L_o rfl rfl rfl (O_call [2,3] [0,1,4,5,6,7,8,9,10,11] (leaf_ok E qy _ Ry []) rfl rfl ?_)
  rintro _ _ ⟨rfl, rfl⟩
  refine JL.norm ?_
  refine Lq ((Q_not rfl).as (v' := .bool false) rfl) ?_
  refine Ln ?_
  refine J_condF rfl ?_
  refine J_skip ?_
  refine retQ_normal [] _ .nil ⟨rfl, g, (X ++ [k] : List Kv), (Yr : List Kv), [], by simp [flat], by simp [flat], ⟨by show 4 ≤ (X ++ [k]).length; simp; omega, by show (X ++ [k]).length ≤ 7; simp; omega⟩, ⟨by show 3 ≤ Yr.length; omega, by show Yr.length ≤ 7; omega⟩, rfl⟩ ?_
  refine (Ent.re [4,5,6,0,2,1,7,8,9,10,11] rfl).trans ?_
  refine (Ent.leafA (t := (X ++ [k] : List Kv))).trans ?_
  refine (Ent.re [1,2,3,0,4,5,6,7,8] rfl).trans ?_
  refine (Ent.leafA (t := (Yr : List Kv))).trans ?_
  exact (Ent.re [1,0,2,3,4,5,6] rfl).trans (Ent.two_back2 (d := 0) (x := (qx, (X ++ [k] : List Kv))) (y := (qy, (Yr : List Kv))) (pL_same (d := 0) A B (qx, cx) (qy, cy) _ _))
 | succ d =>
  obtain ⟨kx, ccx⟩ := cx
  obtain ⟨ky, ccy⟩ := cy
  refine J.inner fun Sx Rx exs hexs => J.ent (Ent.re [4,0,1,2,3,5,6,7,8,9] rfl) (J.inner fun Sy Ry eys heys => ?_)
  obtain ⟨h3, _, hcx, hwx⟩ := hx
  obtain ⟨h4, h7, hcy, hwy⟩ := hy
  have h6 : kx.length ≤ 6 := hx6
  dsimp only at h4 h7 h3 hcx hcy hwx hwy hexs heys ⊢
  obtain ⟨g, Yr, rfl⟩ := cons_of (l := ky) (by omega)
  obtain ⟨eg, es, rfl⟩ := cons_of (l := eys) (by rw [← heys, List.length_map] at hcy; omega)
  subst hexs heys
  simp only [List.length_cons] at h4 h7
  have hel : es.length = Yr.length + 1 := by simpa using hcy
  have hex : exs.length = kx.length + 1 := by simpa using hcx
  have hgl : 0 < (g :: Yr).length := Nat.succ_pos _
  have hpg : 0 < (pL (eg :: es)).length := Nat.succ_pos _
  have hlf := leaf_ok E qy Sy Ry (pL (eg :: es))
  rw [show decide (((pL (eg :: es)).length : Int) = 0) = false from decide_eq_false (by omega)] at hlf
  refine DH [4,9,10] [0,1,2,3,4,5,6,7,8,9,10,11,14,15] (.quiet 0 (.quiet 1 (.quiet 2 (.quiet 3 (.quiet 4 (.quiet 5 (.quiet 6 (.quiet 7 (.quiet 8 (.quiet 9 (.quiet 10 (.quiet 11 (.loud 12 (.loud 13 (.quiet 14 (.quiet 15 (.loud 16 .done))))))))))))))))) Tryz.mixed ?_
  refine Sq (Ent.re [4,9,10] rfl) rfl (Q_move rfl) ?_
  refine Sq (Ent.re [4,9,10] rfl) rfl (Q_move rfl) ?_
  refine Sq (Ent.re [4,9,10] rfl) rfl (Q_nilCheck rfl) ?_
  refine Sq (Ent.re [4,9,10] rfl) rfl (Q_fa0 rfl) ?_
  refine Sq (Ent.re [4,9,10] rfl) rfl (Q_ld 0 rfl rfl rfl rfl) ?_
  refine Sq (Ent.re [4,9,10] rfl) rfl (Q_move rfl) ?_
  refine Sq (Ent.re [4,9,10] rfl) rfl (Q_nilCheck rfl) ?_
  refine Sq (Ent.re [4,9,10] rfl) rfl (Q_fa0 rfl) ?_
  refine Sq (Ent.re [4,9,10] rfl) rfl (Q_ld 1 rfl rfl rfl rfl) ?_
  refine Sq (Ent.re [4,9,10] rfl) rfl (Q_move rfl) ?_
  refine Sq (Ent.re [4,9,10] rfl) rfl (Q_ixAt 2 A.length rfl rfl rfl rfl hKl rfl) ?_
  refine Sq (Ent.re [4,9,10] rfl) rfl (Q_ldEAAt 2 A.length 0 (vs := kvV k) rfl rfl rfl rfl hKl (by decide) (by rw [hKg]; rfl)) ?_
  refine S_o rfl rfl rfl rfl (O_litP (τ := tKv) (m := 1) (sz := 2) [k] rfl rfl rfl rfl rfl rfl (by decide) (fun U => ⟨_, fun _ => ⟨Ent.reN [5,10,11] rfl, Ent.refl _⟩, ?_⟩))
  refine JS.norm ?_
  refine S_o rfl rfl rfl rfl (O_app (τ := tKv) 6 rfl (fun w h => h.rd 0 rfl) rfl rfl rfl rfl (by simp only [List.length_singleton]; omega) (by decide) (fun V => ⟨_, fun _ => ⟨Ent.reN [5,10,11] rfl, Ent.refl _⟩, ?_⟩))
  refine JS.norm ?_
  refine Sq (Ent.re [5,10,11] rfl) rfl (Q_nilCheck rfl) ?_
  refine Sq (Ent.re [5,10,11] rfl) rfl (Q_fa0 rfl) ?_
  refine S_s rfl rfl rfl (O_st1 5 rfl rfl rfl rfl rfl ⟨[], free_no (by kernel_rfl), ?_⟩)
  refine JS.norm ?_
  refine S_nil ?_
  refine seqQ_normal ?_
  refine J_seq ?_
  refine DH [10,1,2,11] [0,1,2,3,4,5,6,7,8,9,10,11] (.quiet 0 (.quiet 1 (.quiet 2 (.quiet 3 (.quiet 4 (.quiet 5 (.quiet 6 (.quiet 7 (.quiet 8 (.quiet 9 (.quiet 10 (.quiet 11 (.loud 12 .done))))))))))))) Tryz.mixed ?_
  refine Sq (Ent.re [10,1,2,11] rfl) rfl (Q_move rfl) ?_
  refine Sq (Ent.re [10,1,2,11] rfl) rfl (Q_nilCheck rfl) ?_
  refine Sq (Ent.re [10,1,2,11] rfl) rfl (Q_fa0 rfl) ?_
  refine Sq (Ent.re [10,1,2,11] rfl) rfl (Q_ld 0 rfl rfl rfl rfl) ?_
  refine Sq (Ent.re [10,1,2,11] rfl) rfl (Q_move rfl) ?_
  refine Sq (Ent.re [10,1,2,11] rfl) rfl (Q_move rfl) ?_
  refine Sq (Ent.re [10,1,2,11] rfl) rfl (Q_nilCheck rfl) ?_
  refine Sq (Ent.re [10,1,2,11] rfl) rfl (Q_fa0 rfl) ?_
  refine Sq (Ent.re [10,1,2,11] rfl) rfl (Q_ld 1 rfl rfl rfl rfl) ?_
  refine Sq (Ent.re [10,1,2,11] rfl) rfl (Q_ixAt 2 0 rfl rfl rfl rfl hgl rfl) ?_
  refine Sq (Ent.re [10,1,2,11] rfl) rfl (Q_ldEAAt 2 0 0 (vs := kvV g) rfl rfl rfl rfl hgl (by decide) rfl) ?_
  refine Sq (Ent.re [10,1,2,11] rfl) rfl (Q_ixAt 3 A.length rfl rfl rfl rfl hKl rfl) ?_
  refine S_s rfl rfl rfl (O_stE 11 A.length 0 g rfl rfl rfl rfl rfl rfl (by intro c hc; simp [Value.cells] at hc; rcases hc with rfl | rfl <;> rfl) hKl (Nat.le_refl 2) (by simp [tKv, Value.cells]) ⟨[], free_no (by kernel_rfl), ?_⟩)
  refine JS.norm ?_
  refine S_nil ?_
  refine seqQ_normal ?_
  refine J_seq ?_
  rw [hset]
  refine J_region ?_
  refine Lq (Q_move rfl) ?_
  refine Lq (Q_move rfl) ?_
  refine Lq (Q_nilCheck rfl) ?_
  refine Lq (Q_fa0 rfl) ?_
  refine Lq (Q_ld 1 rfl rfl rfl rfl) ?_
  refine L_o rfl rfl rfl (O_call [2] [0,1,3,4,5,6,7,8,9,10,11,12,13] (kvdel_ok E Sy (g :: Yr) 0 1 (by decide) (by simp) (by simp; omega)) rfl rfl ?_)
  rintro _ _ ⟨Sy2, rfl, rfl⟩
  refine JL.norm ?_
  refine Lq (Q_nilCheck rfl) ?_
  refine Lq (Q_fa0 rfl) ?_
  refine L_s rfl rfl (O_st1 2 rfl rfl rfl rfl rfl ?_)
  refine JL.norm ?_
  refine Ln ?_
  refine Sr ?_
  refine Lq (Q_move rfl) ?_
  refine L_o rfl rfl rfl (O_call [2,3] [0,1,4,5,6,7,8,9,10,11,12,13] (leaf_ok E qy Sy2 Ry (pL (eg :: es))) rfl rfl ?_)
  rintro _ _ ⟨rfl, rfl⟩
  refine JL.norm ?_
  refine Lq ((Q_not rfl).as (v' := .bool true) (congrArg Value.bool (by rw [decide_eq_false (by omega)]; rfl))) ?_
  refine Ln ?_
  refine J_condT rfl ?_
  refine J_seq ?_
  refine J.ent (Ent.re [0,1,2,4,5,6,7,8,9,10,11,12,13] rfl) ?_
  refine DH [4,0,1] [0,1,2,3,4,5,6,7,8,9,10,13,14] (.quiet 0 (.quiet 1 (.quiet 2 (.quiet 3 (.quiet 4 (.quiet 5 (.quiet 6 (.quiet 7 (.quiet 8 (.quiet 9 (.quiet 10 (.loud 11 (.loud 12 (.quiet 13 (.quiet 14 (.loud 15 .done)))))))))))))))) Tryz.mixed ?_
  refine Sq (Ent.re [4,0,1] rfl) rfl (Q_move rfl) ?_
  refine Sq (Ent.re [4,0,1] rfl) rfl (Q_move rfl) ?_
  refine Sq (Ent.re [4,0,1] rfl) rfl (Q_nilCheck rfl) ?_
  refine Sq (Ent.re [4,0,1] rfl) rfl (Q_fa0 rfl) ?_
  refine Sq (Ent.re [4,0,1] rfl) rfl (Q_ld 0 rfl rfl rfl rfl) ?_
  refine Sq (Ent.re [4,0,1] rfl) rfl (Q_move rfl) ?_
  refine Sq (Ent.re [4,0,1] rfl) rfl (Q_nilCheck rfl) ?_
  refine Sq (Ent.re [4,0,1] rfl) rfl (Q_fa0 rfl) ?_
  refine Sq (Ent.re [4,0,1] rfl) rfl (Q_ld 1 rfl rfl rfl rfl) ?_
  refine Sq (Ent.re [4,0,1] rfl) rfl (Q_ixAt 2 0 rfl rfl rfl rfl hpg rfl) ?_
  refine Sq (Ent.re [4,0,1] rfl) rfl (Q_ldEAt 2 0 0 (v := .pointer (some ⟨eg.1, 0, none⟩)) rfl rfl rfl rfl hpg (by decide) rfl) ?_
  refine S_o rfl rfl rfl rfl (O_litP (τ := tNd) (m := 1) (sz := 1) [some eg.1] rfl rfl rfl rfl rfl rfl (by decide) (fun U => ⟨_, fun _ => ⟨Ent.reN [5,1,2] rfl, Ent.refl _⟩, ?_⟩))
  refine JS.norm ?_
  refine S_o rfl rfl rfl rfl (O_app (τ := tNd) 7 rfl (fun w h => h.rd 0 rfl) rfl rfl rfl rfl (by simp only [List.length_singleton, List.length_map]; omega) (by decide) (fun V => ⟨_, fun _ => ⟨Ent.reN [5,1,2] rfl, Ent.refl _⟩, ?_⟩))
  refine JS.norm ?_
  refine Sq (Ent.re [5,1,2] rfl) rfl (Q_nilCheck rfl) ?_
  refine Sq (Ent.re [5,1,2] rfl) rfl (Q_fa0 rfl) ?_
  refine S_s rfl rfl rfl (O_st1 5 rfl rfl rfl rfl rfl ⟨[], free_no (by kernel_rfl), ?_⟩)
  refine JS.norm ?_
  refine S_nil ?_
  refine seqQ_normal ?_
  refine J_region ?_
  refine Lq (Q_move rfl) ?_
  refine Lq (Q_move rfl) ?_
  refine Lq (Q_nilCheck rfl) ?_
  refine Lq (Q_fa0 rfl) ?_
  refine Lq (Q_ld 1 rfl rfl rfl rfl) ?_
  refine L_o rfl rfl rfl (O_call [2] [0,1,3,4,5,6,7,8,9,10,11,12,13] (nddel_ok E Ry (pL (eg :: es)) 0 1 (by decide) (by simp) (by simp [pL]; omega)) rfl rfl ?_)
  rintro _ _ ⟨Ry2, rfl, rfl⟩
  refine JL.norm ?_
  refine Lq (Q_nilCheck rfl) ?_
  refine Lq (Q_fa0 rfl) ?_
  refine L_s rfl rfl (O_st1 2 rfl rfl rfl rfl rfl ?_)
  refine JL.norm ?_
  refine JL_nil ?_
  have hj2 : flat (d + 1) (kx ++ [k], (exs ++ [eg]).map (·.2)) = flat (d + 1) (kx, exs.map (·.2)) ++ k :: flat d eg.2 := by
   simp only [flat, List.map_append, List.map_cons, List.map_nil]
   have := ileave_join kx [] k ((exs.map (·.2)).map (flat d)) [flat d eg.2] (by simp; omega)
   rw [this]; simp [ileave]
  have hj1 : flat (d + 1) (g :: Yr, (eg :: es).map (·.2)) = flat d eg.2 ++ g :: flat (d + 1) (Yr, es.map (·.2)) := by simp [flat, ileave]
  refine retQ_normal [] _ .nil ⟨rfl, g, (kx ++ [k], (exs ++ [eg]).map (·.2)), (Yr, es.map (·.2)), _, hj1, hj2, ⟨by show 4 ≤ (kx ++ [k]).length; simp; omega, by show (kx ++ [k]).length ≤ 7; simp; omega, by simp; omega, fun c hc => by
   simp only [List.map_append, List.mem_append, List.map_cons, List.map_nil, List.mem_singleton] at hc
   rcases hc with hc | rfl
   ·exact hwx _ hc
   ·exact hwy _ (by simp)⟩, ⟨by show 3 ≤ Yr.length; omega, by show Yr.length ≤ 7; omega, by simpa using hel, fun c hc => hwy c (by simp only [List.map_cons, List.mem_cons]; exact .inr hc)⟩, rfl⟩ ?_
  rw [show (eg :: es).map (ndE d) = [eg].map (ndE d) ++ es.map (ndE d) from rfl, show (exs.map fun e => some e.1) ++ [some eg.1] = (exs ++ [eg]).map fun e => some e.1 from by simp]
  refine (Ent.re [4,8,0,2,3,5,6,7,9,10,11,12,13] rfl).trans (Ent.stars_split.trans ?_)
  refine (Ent.re [2,0,1,3,4,5,6,7,8,9,10,11,12,13] rfl).trans (Ent.stars_join.trans ?_)
  rw [← List.map_append]
  refine (Ent.re [5,6,7,0,3,4,2,1,8,9,10,11,12] rfl).trans ?_
  refine (Ent.innerA (es := exs ++ [eg]) (K := kx ++ [k]) (C := (exs ++ [eg]).map (·.2)) rfl).trans ?_
  refine (Ent.re [1,2,3,4,0,5,6,7,8,9] rfl).trans ?_
  refine (Ent.innerA (es := es) (K := Yr) (C := es.map (·.2)) rfl).trans ?_
  exact (Ent.re [1,0,2,3,4,5,6] rfl).trans (Ent.two_back2 (d := d + 1) (x := (qx, ((kx ++ [k], (exs ++ [eg]).map (·.2)) : T (d + 1)))) (y := (qy, ((Yr, es.map (·.2)) : T (d + 1)))) (pL_same (d := d + 1) A B (qx, _) (qy, _) _ _))
end Go.Proofs.Bt
/- A child made to have more than the fewest keys; the first or last pair below a node. -/
set_option autoImplicit false
namespace Go.SL
theorem J.mid {P : Program} {E : World} {n : Nat} {c d : Code} {Q : Post} {ρ : Env} {L : List HProp} (M : Env → List HProp → Prop) (h : J P E n c (fun e ρ L => e = .normal ∧ M ρ L) ρ L) (hq : ∀ ρ L, M ρ L → J P E n d Q ρ L) : J P E n c (seqQ P E n d Q) ρ L := by
 refine h.mono fun e ρ L he => ?_
 obtain ⟨rfl, hM⟩ := he
 exact hq ρ L hM
end Go.SL
namespace Go.Proofs.Bt
open Go.SL
theorem preI_snoc (k : Kv) (f : List Kv) : ∀ (K : List Kv) (F : List (List Kv)), K.length = F.length → preI (K ++ [k]) (F ++ [f]) = preI K F ++ f ++ [k]
 | [], [], _ => by simp [preI]
 | [], _ :: _, h => by simp at h
 | _ :: _, [], h => by simp at h
 | a :: K, g :: F, h => by
  simp only [List.cons_append, preI]
  rw [preI_snoc k f K F (by simpa using h)]
  simp
theorem preF_snoc {d : Nat} (k : Kv) (c : T d) (K : List Kv) (A : List (T d)) (h : K.length = A.length) : preF d (K ++ [k]) (A ++ [c]) = preF d K A ++ flat d c ++ [k] := by
 unfold preF
 rw [List.map_append]
 exact preI_snoc k (flat d c) K (A.map (flat d)) (by simpa using h)
structure FillP {d : Nat} (K1 K2 : List Kv) (A : List (Nat × T d)) (e : Nat × T d) (B : List (Nat × T d)) (key : Ky) (K1' K2' : List Kv) (A' : List (Nat × T d)) (e' : Nat × T d) (B' : List (Nat × T d)) : Prop where
 hA : K1'.length = A'.length
 hB : K2'.length = B'.length
 hw : ∀ c ∈ A' ++ B', wf 3 d c.2
 he : wf 4 d e'.2
 low : K1.length + K2.length ≤ K1'.length + K2'.length + 1
 top : K1'.length + K2'.length ≤ K1.length + K2.length
 fl : flat (d + 1) (K1' ++ K2', A'.map (·.2) ++ e'.2 :: B'.map (·.2)) = flat (d + 1) (K1 ++ K2, A.map (·.2) ++ e.2 :: B.map (·.2))
 b : Bel K1' key
 a : Abv K2' key
section
variable {d : Nat} {K1 K2 : List Kv} {A B : List (Nat × T d)} {e x : Nat × T d} {k k' : Kv} {key : Ky} {cx cy : T d} {mid : List Kv}
theorem fill_left (hA : K1.length = A.length) (hB : K2.length = B.length) (hw : ∀ c ∈ (A ++ [x]) ++ e :: B, wf 3 d c.2) (hu : Up (flat (d + 1) ((K1 ++ [k]) ++ K2, (A ++ [x]).map (·.2) ++ e.2 :: B.map (·.2)))) (h1 : Bel (K1 ++ [k]) key) (h2 : Abv K2 key)
 (f1 : flat d x.2 = flat d cx ++ k' :: mid) (f2 : flat d cy = mid ++ k :: flat d e.2) (w1 : wf 3 d cx) (w2 : wf 4 d cy) : FillP (K1 ++ [k]) K2 (A ++ [x]) e B key (K1 ++ [k']) K2 (A ++ [(x.1, cx)]) (e.1, cy) B := by
 have hl : (K1 ++ [k]).length = ((A ++ [x]).map (·.2)).length := by simp [hA]
 have hl' : (K1 ++ [k']).length = ((A ++ [(x.1, cx)]).map (·.2)).length := by simp [hA]
 have e1 := flat_at (K1 ++ [k]) K2 ((A ++ [x]).map (·.2)) (B.map (·.2)) e.2 hl
 have e2 := flat_at (K1 ++ [k']) K2 ((A ++ [(x.1, cx)]).map (·.2)) (B.map (·.2)) cy hl'
 rw [List.map_append, List.map_cons, List.map_nil] at e1 e2
 rw [preF_snoc _ _ _ _ (by simpa using hA)] at e1 e2
 have hk : kl k'.key k.key = true := by
  rw [List.map_append, List.map_cons, List.map_nil, e1] at hu
  have h3 := (up_app (up_app hu).1).1
  obtain ⟨hb, _⟩ := up_mid (Y := []) h3
  exact hb k' (by simp [f1])
 refine ⟨by simp [hA], hB, fun c hc => ?_, w2, by simp, by simp, ?_, fun z hz => ?_, h2⟩
 ·simp only [List.append_assoc, List.mem_append, List.mem_singleton] at hc hw
  rcases hc with hc | rfl | hc
  ·exact hw c (.inl hc)
  ·exact w1
  ·exact hw c (.inr (.inr (List.mem_cons_of_mem _ hc)))
 ·simp only [List.map_append, List.map_cons, List.map_nil]
  rw [e1, e2, f1, f2]; simp
 ·rcases List.mem_append.1 hz with hz | hz
  ·exact h1 z (by simp [hz])
  ·rw [List.mem_singleton] at hz; subst hz
   exact kl_trans hk (h1 k (by simp))
theorem fill_right (hA : K1.length = A.length) (hB : K2.length = B.length) (hw : ∀ c ∈ A ++ e :: x :: B, wf 3 d c.2) (hu : Up (flat (d + 1) (K1 ++ k :: K2, A.map (·.2) ++ e.2 :: (x :: B).map (·.2)))) (h1 : Bel K1 key) (h2 : Abv (k :: K2) key)
 (f1 : flat d x.2 = mid ++ k' :: flat d cy) (f2 : flat d cx = flat d e.2 ++ k :: mid) (w1 : wf 4 d cx) (w2 : wf 3 d cy) : FillP K1 (k :: K2) A e (x :: B) key K1 (k' :: K2) A (e.1, cx) ((x.1, cy) :: B) := by
 have hl : K1.length = (A.map (·.2)).length := by simp [hA]
 have e1 := flat_2 K1 K2 k (A.map (·.2)) (B.map (·.2)) e.2 x.2 hl
 have e2 := flat_2 K1 K2 k' (A.map (·.2)) (B.map (·.2)) cx cy hl
 have hk : kl k.key k'.key = true := by
  rw [List.map_cons, e1] at hu
  have h3 := (up_app (up_app hu).1).2
  obtain ⟨_, hb, _⟩ := up_mid h3
  exact hb k' (by simp [f1])
 refine ⟨hA, by simp [hB], fun c hc => ?_, w1, by simp, by simp, ?_, h1, fun z hz => ?_⟩
 ·simp only [List.mem_append, List.mem_cons] at hc hw
  rcases hc with hc | rfl | hc
  ·exact hw c (.inl hc)
  ·exact w2
  ·exact hw c (.inr (.inr (.inr hc)))
 ·simp only [List.map_cons]
  rw [e1, e2, f1, f2]; simp
 ·rcases List.mem_cons.1 hz with rfl | hz
  ·exact kl_trans (h2 k (by simp)) hk
  ·exact h2 z (by simp [hz])
theorem fill_mergeR {cm : T d} (hA : K1.length = A.length) (hB : K2.length = B.length) (hw : ∀ c ∈ A ++ e :: x :: B, wf 3 d c.2) (h1 : Bel K1 key) (h2 : Abv (k :: K2) key) (f1 : flat d cm = flat d e.2 ++ k :: flat d x.2) (w1 : wf 4 d cm) : FillP K1 (k :: K2) A e (x :: B) key K1 K2 A (e.1, cm) B := by
 have hl : K1.length = (A.map (·.2)).length := by simp [hA]
 have e1 := flat_2 K1 K2 k (A.map (·.2)) (B.map (·.2)) e.2 x.2 hl
 have e2 := flat_at K1 K2 (A.map (·.2)) (B.map (·.2)) cm hl
 refine ⟨hA, hB, fun c hc => ?_, w1, by simp only [List.length_append, List.length_cons, List.length_nil]; omega, by simp only [List.length_append, List.length_cons, List.length_nil]; omega, ?_, h1, fun z hz => h2 z (by simp [hz])⟩
 ·simp only [List.mem_append, List.mem_cons] at hc hw
  rcases hc with hc | hc
  ·exact hw c (.inl hc)
  ·exact hw c (.inr (.inr (.inr hc)))
 ·simp only [List.map_cons]
  rw [e1, e2, f1]
theorem fill_mergeL {cm : T d} (hA : K1.length = A.length) (hB : K2.length = B.length) (hw : ∀ c ∈ (A ++ [x]) ++ e :: B, wf 3 d c.2) (h1 : Bel (K1 ++ [k]) key) (h2 : Abv K2 key) (f1 : flat d cm = flat d x.2 ++ k :: flat d e.2) (w1 : wf 4 d cm) : FillP (K1 ++ [k]) K2 (A ++ [x]) e B key K1 K2 A (x.1, cm) B := by
 have hl : K1.length = (A.map (·.2)).length := by simp [hA]
 have e1 := flat_2 K1 K2 k (A.map (·.2)) (B.map (·.2)) x.2 e.2 hl
 have e2 := flat_at K1 K2 (A.map (·.2)) (B.map (·.2)) cm hl
 refine ⟨hA, hB, fun c hc => ?_, w1, by simp only [List.length_append, List.length_cons, List.length_nil]; omega, by simp only [List.length_append, List.length_cons, List.length_nil]; omega, ?_, fun z hz => h1 z (by simp [hz]), h2⟩
 ·simp only [List.append_assoc, List.mem_append, List.mem_singleton] at hc hw
  rcases hc with hc | hc
  ·exact hw c (.inl hc)
  ·exact hw c (.inr (.inr (List.mem_cons_of_mem _ hc)))
 ·simp only [List.map_append, List.map_cons, List.map_nil, List.append_assoc, List.singleton_append]
  rw [e1, e2, f1]
end
attribute [local irreducible] J JL QOp JOp seqQ blockQ loopQ retQ slc cel hex star pur stars Does RV Ent pAt scopeQ
attribute [local irreducible] nodeA nodeX treeA
theorem fill_ok (E : World) (d p : Nat) (S R : SV) (K1 K2 : List Kv) (A B : List (Nat × T d)) (e : Nat × T d) (key : Ky) (hA : K1.length = A.length) (hB : K2.length = B.length) (hw : ∀ c ∈ A ++ e :: B, wf 3 d c.2) (hn : 1 ≤ K1.length + K2.length) (h7 : K1.length + K2.length ≤ 7) (hu : Up (flat (d + 1) (K1 ++ K2, A.map (·.2) ++ e.2 :: B.map (·.2)))) (hk1 : Bel K1 key) (hk2 : Abv K2 key) :
 Does Tryz.prog E 165 [.pointer (some ⟨p, 0, none⟩), .int .i64 (A.length : Int)] [ndC p S R, slc tKv true S (K1 ++ K2), slc tNd true R (pL (A ++ e :: B)), stars ((A ++ e :: B).map (ndE d))]
 fun v L => ∃ (S' R' : SV) (K1' K2' : List Kv) (A' : List (Nat × T d)) (e' : Nat × T d) (B' : List (Nat × T d)), FillP K1 K2 A e B key K1' K2' A' e' B' ∧ v = .pointer (some ⟨e'.1, 0, none⟩) ∧ L = [ndC p S' R', slc tKv true S' (K1' ++ K2'), slc tNd true R' (pL (A' ++ e' :: B')), stars ((A' ++ e' :: B').map (ndE d))] := by
 have hwe : wf 3 d e.2 := hw e (by simp)
 have hPl : A.length < (pL (A ++ e :: B)).length := by rw [pL_len]; simp
 have hPg : (pL (A ++ e :: B))[A.length] = some e.1 := mid_get _ A B e hPl
 have hw3 := (wf_ks hwe).1
 have hw7 := (wf_ks hwe).2
 refine Does.of Tryz.func165 rfl Tryz.ntmps165 rfl rfl fun F => ?_
 refine J.norm ?_
 refine Sr ?_
 refine Lq (Q_assign rfl) ?_
 refine Ln ?_
 refine J_seq ?_
 refine J_block ?_
 refine J_seq ?_
 refine J.cut (fun x ρ' L' => x = .normal ∧ ∃ (S' R' : SV) (K1' K2' : List Kv) (A' : List (Nat × T d)) (e' : Nat × T d) (B' : List (Nat × T d)), FillP K1 K2 A e B key K1' K2' A' e' B' ∧ envSub [(0, .pointer (some ⟨p, 0, none⟩)), (1, .int .i64 (A'.length : Int))] ρ' ∧ Ent L' [ndC p S' R', slc tKv true S' (K1' ++ K2'), slc tNd true R' (pL (A' ++ e' :: B')), stars ((A' ++ e' :: B').map (ndE d)), F]) ?_ ?_
 ·refine J.ent ((Ent.re [3,0,1,2,4] rfl).trans (Ent.mid_out (ndE d) A e B)) ?_
  refine J.peek fun Sc Rc X hX => ?_
  have hclose : Ent (ndC e.1 Sc Rc :: slc tKv true Sc (tks d e.2) :: X :: stars ((A ++ B).map (ndE d)) :: ndC p S R :: slc tKv true S (K1 ++ K2) :: slc tNd true R (pL (A ++ e :: B)) :: F :: []) [ndC p S R, slc tKv true S (K1 ++ K2), slc tNd true R (pL (A ++ e :: B)), stars ((A ++ e :: B).map (ndE d)), F] := ((hX _).trans (Ent.mid_in (ndE d) A e B)).trans (Ent.re [1,2,3,0,4] rfl)
  by_cases c1 : 3 < (tks d e.2).length
  ·skip
   refine J_region ?_
   refine Lq (Q_move rfl) ?_
   refine Lq (Q_nilCheck rfl) ?_
   refine Lq (Q_fa0 rfl) ?_
   refine Lq (Q_ld 4 rfl rfl rfl rfl) ?_
   refine Lq (Q_move rfl) ?_
   refine Lq (Q_ixAt 6 A.length rfl rfl rfl rfl hPl rfl) ?_
   refine Lq (Q_ldEAt 6 A.length 0 (v := .pointer (some ⟨e.1, 0, none⟩)) rfl rfl rfl rfl hPl (by decide) (by rw [hPg]; rfl)) ?_
   refine Lq (Q_nilCheck rfl) ?_
   refine Lq (Q_fa0 rfl) ?_
   refine Lq (Q_ld 0 rfl rfl rfl rfl) ?_
   refine Lq (Q_lenAt 1 rfl rfl) ?_
   refine Lq ((Q_gtr rfl rfl).as (v' := .bool true) (congrArg Value.bool (decide_eq_true (by omega)))) ?_
   refine Lq (Q_assign rfl) ?_
   refine Ln ?_
   refine J_condT rfl ?_
   refine J_skip ?_
   refine blockQ_normal ?_
   exact ⟨rfl, S, R, K1, K2, A, e, B, ⟨hA, hB, fun c hc => hw c (by simp only [List.mem_append, List.mem_cons] at hc ⊢; exact hc.elim .inl (fun h => .inr (.inr h))), wf_mk hwe c1, by omega, Nat.le_refl _, rfl, hk1, hk2⟩, ⟨rfl, rfl, trivial⟩, hclose⟩
  ·have h3 : (tks d e.2).length = 3 := by omega
   refine J_region ?_
   refine Lq (Q_move rfl) ?_
   refine Lq (Q_nilCheck rfl) ?_
   refine Lq (Q_fa0 rfl) ?_
   refine Lq (Q_ld 4 rfl rfl rfl rfl) ?_
   refine Lq (Q_move rfl) ?_
   refine Lq (Q_ixAt 6 A.length rfl rfl rfl rfl hPl rfl) ?_
   refine Lq (Q_ldEAt 6 A.length 0 (v := .pointer (some ⟨e.1, 0, none⟩)) rfl rfl rfl rfl hPl (by decide) (by rw [hPg]; rfl)) ?_
   refine Lq (Q_nilCheck rfl) ?_
   refine Lq (Q_fa0 rfl) ?_
   refine Lq (Q_ld 0 rfl rfl rfl rfl) ?_
   refine Lq (Q_lenAt 1 rfl rfl) ?_
   refine Lq ((Q_gtr rfl rfl).as (v' := .bool false) (congrArg Value.bool (decide_eq_false (by omega)))) ?_
   refine Lq (Q_assign rfl) ?_
   refine Ln ?_
   refine J_condF rfl ?_
   refine J_seq ?_
   refine J.ent hclose ?_
   refine J.mid (fun ρ' L' => ∃ b : Bool, (b = true → ∃ A2 x, A = A2 ++ [x] ∧ 3 < (tks d x.2).length) ∧ (b = false → ∀ A2 x, A = A2 ++ [x] → (tks d x.2).length = 3) ∧ envSub [(0, .pointer (some ⟨p, 0, none⟩)), (1, .int .i64 (A.length : Int)), (24, .bool b)] ρ' ∧ Ent L' [ndC p S R, slc tKv true S (K1 ++ K2), slc tNd true R (pL (A ++ e :: B)), stars ((A ++ e :: B).map (ndE d)), F]) ?_ ?_
   ·rcases Nat.eq_zero_or_pos A.length with c2 | c2
    ·skip
     refine J_region ?_
     refine Lq (Q_move rfl) ?_
     refine Lq ((Q_gtr rfl rfl).as (v' := .bool false) (congrArg Value.bool (decide_eq_false (by omega)))) ?_
     refine Lq (Q_move rfl) ?_
     refine L_n rfl rfl rfl ?_
     refine L_n rfl rfl rfl ?_
     refine L_n rfl rfl rfl ?_
     refine L_n rfl rfl rfl ?_
     refine L_n rfl rfl rfl ?_
     refine L_n rfl rfl rfl ?_
     refine L_n rfl rfl rfl ?_
     refine L_n rfl rfl rfl ?_
     refine L_n rfl rfl rfl ?_
     refine L_n rfl rfl rfl ?_
     refine L_n rfl rfl rfl ?_
     refine L_n rfl rfl rfl ?_
     refine L_n rfl rfl rfl ?_
     refine Lq (Q_pickF rfl rfl) ?_
     refine Lq (Q_assign rfl) ?_
     refine JL_nil ?_
     exact ⟨rfl, false, fun h => Bool.noConfusion h, fun _ A2 x h => by rw [h] at c2; simp at c2, ⟨rfl, rfl, rfl, trivial⟩, Ent.refl _⟩
    ·obtain ⟨A2, x, rfl⟩ := snoc_of c2
     have hwx : wf 3 d x.2 := hw x (by simp)
     have hx3 := (wf_ks hwx).1
     have hxl : (A2 ++ [x]).length = A2.length + 1 := by simp
     have hPx : A2.length < (pL ((A2 ++ [x]) ++ e :: B)).length := by rw [pL_len]; simp only [List.length_append, List.length_cons, List.length_nil]; omega
     have hPxg : (pL ((A2 ++ [x]) ++ e :: B))[A2.length] = some x.1 := by
      have h := mid_get (fun x : Nat × T d => some x.1) A2 (e :: B) x (by simp)
      simp only [pL, List.append_assoc, List.singleton_append]; exact h
     rw [show stars (((A2 ++ [x]) ++ e :: B).map (ndE d)) = stars ((A2 ++ x :: (e :: B)).map (ndE d)) by rw [List.append_assoc]; rfl]
     refine J.ent ((Ent.re [3,0,1,2,4] rfl).trans (Ent.mid_out (ndE d) A2 x (e :: B))) ?_
     refine J.peek fun Sd Rd Z hZ => ?_
     have hcl2 : Ent (ndC x.1 Sd Rd :: slc tKv true Sd (tks d x.2) :: Z :: stars ((A2 ++ e :: B).map (ndE d)) :: ndC p S R :: slc tKv true S (K1 ++ K2) :: slc tNd true R (pL ((A2 ++ [x]) ++ e :: B)) :: F :: []) [ndC p S R, slc tKv true S (K1 ++ K2), slc tNd true R (pL ((A2 ++ [x]) ++ e :: B)), stars ((A2 ++ x :: (e :: B)).map (ndE d)), F] := ((hZ _).trans (Ent.mid_in (ndE d) A2 x (e :: B))).trans (Ent.re [1,2,3,0,4] rfl)
     by_cases hb : 3 < (tks d x.2).length
     ·skip
      refine J_region ?_
      refine Lq (Q_move rfl) ?_
      refine Lq ((Q_gtr rfl rfl).as (v' := .bool true) (congrArg Value.bool (decide_eq_true (by omega)))) ?_
      refine Lq (Q_move rfl) ?_
      refine Lq (Q_move rfl) ?_
      refine Lq (Q_nilCheck rfl) ?_
      refine Lq (Q_fa0 rfl) ?_
      refine Lq (Q_ld 4 rfl rfl rfl rfl) ?_
      refine Lq (Q_move rfl) ?_
      refine Lq (Q_sub (r := (A2.length : Int)) rfl rfl (by rw [show ((A2 ++ [x]).length : Int) - 1 = (A2.length : Int) by omega]; exact IntWalk.i64_in _ (by omega))) ?_
      refine Lq (Q_ixAt 6 A2.length rfl rfl rfl rfl hPx rfl) ?_
      refine Lq (Q_ldEAt 6 A2.length 0 (v := .pointer (some ⟨x.1, 0, none⟩)) rfl rfl rfl rfl hPx (by decide) (by rw [hPxg]; rfl)) ?_
      refine Lq (Q_nilCheck rfl) ?_
      refine Lq (Q_fa0 rfl) ?_
      refine Lq (Q_ld 0 rfl rfl rfl rfl) ?_
      refine Lq (Q_lenAt 1 rfl rfl) ?_
      refine Lq ((Q_gtr rfl rfl).as (v' := .bool true) (congrArg Value.bool (decide_eq_true (by omega)))) ?_
      refine Lq (Q_pickT rfl rfl) ?_
      refine Lq (Q_assign rfl) ?_
      refine JL_nil ?_
      exact ⟨rfl, true, fun _ => ⟨A2, x, rfl, hb⟩, fun h => Bool.noConfusion h, ⟨rfl, rfl, rfl, trivial⟩, hcl2⟩
     ·skip
      refine J_region ?_
      refine Lq (Q_move rfl) ?_
      refine Lq ((Q_gtr rfl rfl).as (v' := .bool true) (congrArg Value.bool (decide_eq_true (by omega)))) ?_
      refine Lq (Q_move rfl) ?_
      refine Lq (Q_move rfl) ?_
      refine Lq (Q_nilCheck rfl) ?_
      refine Lq (Q_fa0 rfl) ?_
      refine Lq (Q_ld 4 rfl rfl rfl rfl) ?_
      refine Lq (Q_move rfl) ?_
      refine Lq (Q_sub (r := (A2.length : Int)) rfl rfl (by rw [show ((A2 ++ [x]).length : Int) - 1 = (A2.length : Int) by omega]; exact IntWalk.i64_in _ (by omega))) ?_
      refine Lq (Q_ixAt 6 A2.length rfl rfl rfl rfl hPx rfl) ?_
      refine Lq (Q_ldEAt 6 A2.length 0 (v := .pointer (some ⟨x.1, 0, none⟩)) rfl rfl rfl rfl hPx (by decide) (by rw [hPxg]; rfl)) ?_
      refine Lq (Q_nilCheck rfl) ?_
      refine Lq (Q_fa0 rfl) ?_
      refine Lq (Q_ld 0 rfl rfl rfl rfl) ?_
      refine Lq (Q_lenAt 1 rfl rfl) ?_
      refine Lq ((Q_gtr rfl rfl).as (v' := .bool false) (congrArg Value.bool (decide_eq_false (by omega)))) ?_
      refine Lq (Q_pickT rfl rfl) ?_
      refine Lq (Q_assign rfl) ?_
      refine JL_nil ?_
      refine ⟨rfl, false, fun h => Bool.noConfusion h, fun _ A3 y hy => ?_, ⟨rfl, rfl, rfl, trivial⟩, hcl2⟩
      obtain ⟨_, h9⟩ := List.append_inj' hy rfl
      obtain rfl : x = y := by simpa using h9
      omega
   rintro ρ4 L4 ⟨b, hb1, hb2, hsub, hent⟩
   refine J.sub hsub ?_
   refine J.ent hent ?_
   clear hsub hent
   cases b with
   | true =>
    obtain ⟨A2, x, rfl, hx⟩ := hb1 rfl
    obtain ⟨K1, k, rfl⟩ := snoc_of (l := K1) (by simp at hA; omega)
    have hA2 : K1.length = A2.length := by simpa using hA
    have hwx : wf 3 d x.2 := hw x (by simp)
    have eP : pL ((A2 ++ [x]) ++ e :: B) = pL (A2 ++ x :: e :: B) := by rw [List.append_assoc]; rfl
    have eS : ((A2 ++ [x]) ++ e :: B).map (ndE d) = (A2 ++ x :: e :: B).map (ndE d) := by rw [List.append_assoc]; rfl
    have eK : (K1 ++ [k]) ++ K2 = K1 ++ k :: K2 := by rw [List.append_assoc]; rfl
    have eI : ((A2 ++ [x]).length : Int) = ((A2.length + 1 : Nat) : Int) := by simp
    rw [eP, eS, eK]
    refine J.sub (e := [(0, .pointer (some ⟨p, 0, none⟩)), (1, .int .i64 ((A2.length + 1 : Nat) : Int)), (24, .bool true)]) ⟨rfl, by rw [← eI]; rfl, rfl, trivial⟩ ?_
    refine J_condT rfl ?_
    refine J_region ?_
    refine Lq (Q_move rfl) ?_
    refine Lq (Q_move rfl) ?_
    refine L_o rfl rfl rfl (O_call [0,1,2,3] [4] (fromLeft_ok E d p S R K1 K2 k A2 B x e hA2 (wf_mk hwx hx) hwe (by omega) (by simp at h7; omega) (by simp at hA h7; omega)) rfl rfl ?_)
    rintro _ _ ⟨rfl, k', cx, cy, mid, f1, f2, w1, w2, rfl⟩
    refine JL.norm ?_
    refine JL_nil ?_
    refine blockQ_normal ?_
    refine ⟨rfl, S, R, _, _, _, _, _, fill_left hA2 hB hw hu hk1 hk2 f1 f2 w1 w2, ⟨rfl, by rw [show ((A2 ++ [(x.1, cx)]).length : Int) = ((A2.length + 1 : Nat) : Int) by simp]; rfl, trivial⟩, ?_⟩
    rw [show (K1 ++ [k']) ++ K2 = K1 ++ k' :: K2 by rw [List.append_assoc]; rfl, show (A2 ++ [(x.1, cx)]) ++ (e.1, cy) :: B = A2 ++ (x.1, cx) :: (e.1, cy) :: B by rw [List.append_assoc]; rfl]
    exact Ent.refl _
   | false =>
    refine J_condF rfl ?_
    refine J_seq ?_
    refine J.mid (fun ρ' L' => ∃ b : Bool, (b = true → ∃ x B2, B = x :: B2 ∧ 3 < (tks d x.2).length) ∧ (b = false → ∀ x B2, B = x :: B2 → (tks d x.2).length = 3) ∧ envSub [(0, .pointer (some ⟨p, 0, none⟩)), (1, .int .i64 (A.length : Int)), (45, .bool b)] ρ' ∧ Ent L' [ndC p S R, slc tKv true S (K1 ++ K2), slc tNd true R (pL (A ++ e :: B)), stars ((A ++ e :: B).map (ndE d)), F]) ?_ ?_
    ·cases B with
     | nil =>
      have hK0 : K2.length = 0 := hB
      refine J_region ?_
      refine Lq (Q_move rfl) ?_
      refine Lq (Q_move rfl) ?_
      refine Lq (Q_nilCheck rfl) ?_
      refine Lq (Q_fa0 rfl) ?_
      refine Lq (Q_ld 0 rfl rfl rfl rfl) ?_
      refine Lq (Q_lenAt 1 rfl rfl) ?_
      refine Lq ((Q_lss rfl rfl).as (v' := .bool false) (congrArg Value.bool (decide_eq_false (by simp only [List.length_append]; omega)))) ?_
      refine Lq (Q_move rfl) ?_
      refine L_n rfl rfl rfl ?_
      refine L_n rfl rfl rfl ?_
      refine L_n rfl rfl rfl ?_
      refine L_n rfl rfl rfl ?_
      refine L_n rfl rfl rfl ?_
      refine L_n rfl rfl rfl ?_
      refine L_n rfl rfl rfl ?_
      refine L_n rfl rfl rfl ?_
      refine L_n rfl rfl rfl ?_
      refine L_n rfl rfl rfl ?_
      refine L_n rfl rfl rfl ?_
      refine L_n rfl rfl rfl ?_
      refine L_n rfl rfl rfl ?_
      refine Lq (Q_pickF rfl rfl) ?_
      refine Lq (Q_assign rfl) ?_
      refine JL_nil ?_
      exact ⟨rfl, false, fun h => Bool.noConfusion h, fun _ x B2 h => (nomatch h), ⟨rfl, rfl, rfl, trivial⟩, Ent.refl _⟩
     | cons x B2 =>
      have hwx : wf 3 d x.2 := hw x (by simp)
      have hx3 := (wf_ks hwx).1
      have hPx : A.length + 1 < (pL (A ++ e :: x :: B2)).length := by rw [pL_len]; simp
      have hPxg := pL_get2 A B2 e x hPx
      have eS : A ++ e :: x :: B2 = (A ++ [e]) ++ x :: B2 := by simp
      rw [show stars ((A ++ e :: x :: B2).map (ndE d)) = stars (((A ++ [e]) ++ x :: B2).map (ndE d)) by rw [eS]]
      refine J.ent ((Ent.re [3,0,1,2,4] rfl).trans (Ent.mid_out (ndE d) (A ++ [e]) x B2)) ?_
      refine J.peek fun Sd Rd Z hZ => ?_
      have hcl2 : Ent (ndC x.1 Sd Rd :: slc tKv true Sd (tks d x.2) :: Z :: stars (((A ++ [e]) ++ B2).map (ndE d)) :: ndC p S R :: slc tKv true S (K1 ++ K2) :: slc tNd true R (pL (A ++ e :: x :: B2)) :: F :: []) [ndC p S R, slc tKv true S (K1 ++ K2), slc tNd true R (pL (A ++ e :: x :: B2)), stars (((A ++ [e]) ++ x :: B2).map (ndE d)), F] := ((hZ _).trans (Ent.mid_in (ndE d) (A ++ [e]) x B2)).trans (Ent.re [1,2,3,0,4] rfl)
      by_cases hb : 3 < (tks d x.2).length
      ·skip
       refine J_region ?_
       refine Lq (Q_move rfl) ?_
       refine Lq (Q_move rfl) ?_
       refine Lq (Q_nilCheck rfl) ?_
       refine Lq (Q_fa0 rfl) ?_
       refine Lq (Q_ld 4 rfl rfl rfl rfl) ?_
       refine Lq (Q_lenAt 5 rfl rfl) ?_
       refine Lq ((Q_lss rfl rfl).as (v' := .bool true) (congrArg Value.bool (decide_eq_true (by simp at hB ⊢; omega)))) ?_
       refine Lq (Q_move rfl) ?_
       refine Lq (Q_move rfl) ?_
       refine Lq (Q_nilCheck rfl) ?_
       refine Lq (Q_fa0 rfl) ?_
       refine Lq (Q_ld 4 rfl rfl rfl rfl) ?_
       refine Lq (Q_move rfl) ?_
       refine Lq (Q_add rfl rfl (by first | exact IntWalk.i64_in _ (by omega) | exact IntWalk.u8_in _ (by omega) | exact IntWalk.u32_in _ (by omega) | exact IntWalk.u64_in _ (by omega) | rfl)) ?_
       refine Lq (Q_ixAt 6 (A.length + 1) rfl rfl rfl rfl hPx rfl) ?_
       refine Lq (Q_ldEAt 6 (A.length + 1) 0 (v := .pointer (some ⟨x.1, 0, none⟩)) rfl rfl rfl rfl hPx (by decide) (by rw [hPxg]; rfl)) ?_
       refine Lq (Q_nilCheck rfl) ?_
       refine Lq (Q_fa0 rfl) ?_
       refine Lq (Q_ld 0 rfl rfl rfl rfl) ?_
       refine Lq (Q_lenAt 1 rfl rfl) ?_
       refine Lq ((Q_gtr rfl rfl).as (v' := .bool true) (congrArg Value.bool (decide_eq_true (by omega)))) ?_
       refine Lq (Q_pickT rfl rfl) ?_
       refine Lq (Q_assign rfl) ?_
       refine JL_nil ?_
       exact ⟨rfl, true, fun _ => ⟨x, B2, rfl, hb⟩, fun h => Bool.noConfusion h, ⟨rfl, rfl, rfl, trivial⟩, hcl2⟩
      ·skip
       refine J_region ?_
       refine Lq (Q_move rfl) ?_
       refine Lq (Q_move rfl) ?_
       refine Lq (Q_nilCheck rfl) ?_
       refine Lq (Q_fa0 rfl) ?_
       refine Lq (Q_ld 4 rfl rfl rfl rfl) ?_
       refine Lq (Q_lenAt 5 rfl rfl) ?_
       refine Lq ((Q_lss rfl rfl).as (v' := .bool true) (congrArg Value.bool (decide_eq_true (by simp at hB ⊢; omega)))) ?_
       refine Lq (Q_move rfl) ?_
       refine Lq (Q_move rfl) ?_
       refine Lq (Q_nilCheck rfl) ?_
       refine Lq (Q_fa0 rfl) ?_
       refine Lq (Q_ld 4 rfl rfl rfl rfl) ?_
       refine Lq (Q_move rfl) ?_
       refine Lq (Q_add rfl rfl (by first | exact IntWalk.i64_in _ (by omega) | exact IntWalk.u8_in _ (by omega) | exact IntWalk.u32_in _ (by omega) | exact IntWalk.u64_in _ (by omega) | rfl)) ?_
       refine Lq (Q_ixAt 6 (A.length + 1) rfl rfl rfl rfl hPx rfl) ?_
       refine Lq (Q_ldEAt 6 (A.length + 1) 0 (v := .pointer (some ⟨x.1, 0, none⟩)) rfl rfl rfl rfl hPx (by decide) (by rw [hPxg]; rfl)) ?_
       refine Lq (Q_nilCheck rfl) ?_
       refine Lq (Q_fa0 rfl) ?_
       refine Lq (Q_ld 0 rfl rfl rfl rfl) ?_
       refine Lq (Q_lenAt 1 rfl rfl) ?_
       refine Lq ((Q_gtr rfl rfl).as (v' := .bool false) (congrArg Value.bool (decide_eq_false (by omega)))) ?_
       refine Lq (Q_pickT rfl rfl) ?_
       refine Lq (Q_assign rfl) ?_
       refine JL_nil ?_
       refine ⟨rfl, false, fun h => Bool.noConfusion h, fun _ y B3 hy => ?_, ⟨rfl, rfl, rfl, trivial⟩, hcl2⟩
       obtain ⟨rfl, _⟩ := List.cons.inj hy
       omega
    rintro ρ6 L6 ⟨b, hr1, hr2, hsub, hent⟩
    refine J.sub hsub ?_
    refine J.ent hent ?_
    clear hsub hent
    cases b with
    | true =>
     obtain ⟨x, B2, rfl, hx⟩ := hr1 rfl
     obtain ⟨k, K2, rfl⟩ := cons_of (l := K2) (by simp at hB; omega)
     have hB2 : K2.length = B2.length := by simpa using hB
     have hwx : wf 3 d x.2 := hw x (by simp)
     refine J_condT rfl ?_
     refine J_region ?_
     refine Lq (Q_move rfl) ?_
     refine Lq (Q_move rfl) ?_
     refine L_o rfl rfl rfl (O_call [0,1,2,3] [4] (fromRight_ok E d p S R K1 K2 k A B2 e x hA hwe (wf_mk hwx hx) (by omega) (by simp at h7; omega) (by simp at hB h7; omega)) rfl rfl ?_)
     rintro _ _ ⟨rfl, k', cx, cy, mid, f1, f2, w1, w2, rfl⟩
     refine JL.norm ?_
     refine JL_nil ?_
     refine blockQ_normal ?_
     exact ⟨rfl, S, R, _, _, _, _, _, fill_right hA hB2 hw hu hk1 hk2 f1 f2 w1 w2, ⟨rfl, rfl, trivial⟩, Ent.refl _⟩
    | false =>
     refine J_condF rfl ?_
     refine J_seq ?_
     cases B with
     | cons x B2 =>
      obtain ⟨k, K2, rfl⟩ := cons_of (l := K2) (by simp at hB; omega)
      have hB2 : K2.length = B2.length := by simpa using hB
      have hwx : wf 3 d x.2 := hw x (by simp)
      refine J_region ?_
      refine Lq (Q_move rfl) ?_
      refine Lq (Q_move rfl) ?_
      refine Lq (Q_nilCheck rfl) ?_
      refine Lq (Q_fa0 rfl) ?_
      refine Lq (Q_ld 0 rfl rfl rfl rfl) ?_
      refine Lq (Q_lenAt 1 rfl rfl) ?_
      refine Lq ((Q_lss rfl rfl).as (v' := .bool true) (congrArg Value.bool (decide_eq_true (by simp; omega)))) ?_
      refine Lq (Q_assign rfl) ?_
      refine Ln ?_
      refine J_condT rfl ?_
      refine J_region ?_
      refine Lq (Q_move rfl) ?_
      refine Lq (Q_move rfl) ?_
      refine L_o rfl rfl rfl (O_call [0,1,2,3] [4] (merge_ok E d p S R K1 K2 k A B2 e x hA hwe hwx h3 (hr2 rfl x B2 rfl) (by simp at h7; omega) (by simp at hB h7; omega)) rfl rfl ?_)
      rintro _ _ ⟨rfl, S', R', cm, f1, w1, _, rfl⟩
      refine JL.norm ?_
      refine JL_nil ?_
      refine blockQ_normal ?_
      exact ⟨rfl, S', R', _, _, _, _, _, fill_mergeR hA hB2 hw hk1 hk2 f1 (wf_mk w1 (by omega)), ⟨rfl, rfl, trivial⟩, Ent.refl _⟩
     | nil =>
      have hK2 : K2 = [] := List.eq_nil_of_length_eq_zero (by simpa using hB)
      subst hK2
      obtain ⟨A2, x, rfl⟩ := snoc_of (l := A) (by simp at hn; omega)
      obtain ⟨K1, k, rfl⟩ := snoc_of (l := K1) (by simp at hA; omega)
      have hA2 : K1.length = A2.length := by simpa using hA
      have hwx : wf 3 d x.2 := hw x (by simp)
      have eP : pL ((A2 ++ [x]) ++ e :: []) = pL (A2 ++ x :: e :: []) := by rw [List.append_assoc]; rfl
      have eS : ((A2 ++ [x]) ++ e :: []).map (ndE d) = (A2 ++ x :: e :: []).map (ndE d) := by rw [List.append_assoc]; rfl
      have eK : (K1 ++ [k]) ++ [] = K1 ++ k :: [] := by rw [List.append_assoc]; rfl
      have eI : ((A2 ++ [x]).length : Int) - 1 = (A2.length : Int) := by simp
      refine J_region ?_
      refine Lq (Q_move rfl) ?_
      refine Lq (Q_move rfl) ?_
      refine Lq (Q_nilCheck rfl) ?_
      refine Lq (Q_fa0 rfl) ?_
      refine Lq (Q_ld 0 rfl rfl rfl rfl) ?_
      refine Lq (Q_lenAt 1 rfl rfl) ?_
      refine Lq ((Q_lss rfl rfl).as (v' := .bool false) (congrArg Value.bool (decide_eq_false (by simp at hA ⊢; omega)))) ?_
      refine Lq (Q_assign rfl) ?_
      refine Ln ?_
      refine J_condF rfl ?_
      refine J_seq ?_
      rw [eP, eS, eK]
      refine J_region ?_
      refine Lq (Q_move rfl) ?_
      refine Lq (Q_move rfl) ?_
      refine Lq (Q_sub (r := (A2.length : Int)) rfl rfl (by rw [eI]; exact IntWalk.i64_in _ (by simp at hA h7; omega))) ?_
      refine L_o rfl rfl rfl (O_call [0,1,2,3] [4] (merge_ok E d p S R K1 [] k A2 [] x e hA2 hwx hwe (hb2 rfl A2 x rfl) h3 (by simp at h7 ⊢; omega) (by simp at hA h7 ⊢; omega)) rfl rfl ?_)
      rintro _ _ ⟨rfl, S', R', cm, f1, w1, _, rfl⟩
      refine JL.norm ?_
      refine Ln ?_
      refine J_region ?_
      refine Lq (Q_move rfl) ?_
      refine Lq (Q_sub (r := (A2.length : Int)) rfl rfl (by rw [eI]; exact IntWalk.i64_in _ (by simp at hA h7; omega))) ?_
      refine Lq (Q_assign rfl) ?_
      refine JL_nil ?_
      refine blockQ_normal ?_
      exact ⟨rfl, S', R', _, _, _, _, _, fill_mergeL hA2 hB hw hk1 hk2 f1 (wf_mk w1 (by omega)), ⟨rfl, rfl, trivial⟩, Ent.refl _⟩
 rintro _ ρ' L' ⟨rfl, S', R', K1', K2', A', e', B', hF, hsub, hent⟩
 refine seqQ_normal ?_
 refine J.sub hsub ?_
 refine J.ent hent ?_
 have hP2 : A'.length < (pL (A' ++ e' :: B')).length := by rw [pL_len]; simp
 have hP2g : (pL (A' ++ e' :: B'))[A'.length] = some e'.1 := mid_get _ A' B' e' hP2
 refine Sr ?_
 refine Lq (Q_move rfl) ?_
 refine Lq (Q_nilCheck rfl) ?_
 refine Lq (Q_fa0 rfl) ?_
 refine Lq (Q_ld 0 rfl rfl rfl rfl) ?_
 refine Lq (Q_move rfl) ?_
 refine Lq (Q_ixAt 2 A'.length rfl rfl rfl rfl hP2 rfl) ?_
 refine Lq (Q_ldEAt 2 A'.length 0 (v := .pointer (some ⟨e'.1, 0, none⟩)) rfl rfl rfl rfl hP2 (by decide) (by rw [hP2g]; rfl)) ?_
 refine Lq (Q_assign rfl) ?_
 refine Ln ?_
 refine J_ret ?_
 exact retQ_ret _ _ (.cons (RV_tmp rfl) .nil) ⟨S', R', K1', K2', A', e', B', hF, rfl, rfl⟩ (Ent.refl _)
end Go.Proofs.Bt
/- The first or last pair below a node; a key taken away. -/
set_option autoImplicit false
namespace Go.Proofs.Bt
open Go.SL
theorem flat_last {d : Nat} {K : List Kv} {A : List (T d)} {c : T d} (h : K.length = A.length) : flat (d + 1) (K, A ++ [c]) = preF d K A ++ flat d c := by
 have := flat_at K [] A [] c h
 rw [List.append_nil] at this
 rw [this]; simp [postF, postI]
theorem flat_first {d : Nat} {K : List Kv} {B : List (T d)} {c : T d} : flat (d + 1) (K, c :: B) = flat d c ++ postF d K B := by
 have := flat_at [] K [] B c rfl
 rw [List.nil_append, List.nil_append] at this
 rw [this]; rfl
theorem Ent.foldP {d p : Nat} {S R : SV} {K : List Kv} {A B : List (Nat × T d)} {e : Nat × T d} {G : HProp} : Ent [nodeA d e.1 e.2, stars ((A ++ B).map (ndE d)), ndC p S R, slc tNd true R (pL (A ++ e :: B)), slc tKv true S K, G] [nodeA d e.1 e.2, stars (parL p S R K (pL A ++ some e.1 :: pL B) (A ++ B) G)] := by
 rw [pL_app A B e]
 exact (Ent.re [0,2,4,3,1,5] rfl).trans Ent.foldR
section
variable {d : Nat} {K1 K2 : List Kv} {A B : List (T d)} {x y cm : T d} {k u : Ky} {g : Kv} {Z : List Kv}
/-- The key is in the node; the last pair of the child before it takes its place. -/
theorem del_left (hA : K1.length = A.length) (hu : Up (flat (d + 1) (K1 ++ ⟨k, u⟩ :: K2, A ++ x :: y :: B))) (hx : flat d x = Z ++ [g]) :
 Up (flat d x) ∧ hasL (flat d x) g.key = true ∧ delL (flat (d + 1) (K1 ++ ⟨k, u⟩ :: K2, A ++ x :: y :: B)) k = preF d K1 A ++ delL (flat d x) g.key ++ postF d (g :: K2) (y :: B) := by
 have e1 := flat_2 K1 K2 ⟨k, u⟩ A B x y hA
 rw [e1] at hu ⊢
 have h1 := up_app (up_app hu).1
 have h2 := up_mid h1.2
 have hux : Up (flat d x) := h2.2.2.1
 have hux2 := hux
 rw [hx] at hux2
 have h3 := up_mid (Y := []) hux2
 refine ⟨hux, by rw [hx]; exact has_hit g.val, ?_⟩
 have e2 : preF d K1 A ++ (flat d x ++ ⟨k, u⟩ :: flat d y) ++ postF d K2 B = (preF d K1 A ++ flat d x) ++ ⟨k, u⟩ :: (flat d y ++ postF d K2 B) := by simp
 rw [e2] at hu ⊢
 obtain ⟨m1, m2, _, _⟩ := up_mid hu
 have h4 : delL (Z ++ [g]) g.key = Z := by
  have := del_hit (X := Z) (Y := []) (k := g.key) h3.1 (by intro z hz; cases hz) g.val
  rw [List.append_nil] at this
  exact this
 rw [del_hit m1 m2 u, postF_cons, hx, h4]
 simp
theorem del_right (hA : K1.length = A.length) (hu : Up (flat (d + 1) (K1 ++ ⟨k, u⟩ :: K2, A ++ x :: y :: B))) (hy : flat d y = g :: Z) :
 Up (flat d y) ∧ hasL (flat d y) g.key = true ∧ delL (flat (d + 1) (K1 ++ ⟨k, u⟩ :: K2, A ++ x :: y :: B)) k = preF d (K1 ++ [g]) (A ++ [x]) ++ delL (flat d y) g.key ++ postF d K2 B := by
 have e1 := flat_2 K1 K2 ⟨k, u⟩ A B x y hA
 rw [e1] at hu ⊢
 have h1 := up_app (up_app hu).1
 have h2 := up_mid h1.2
 have huy : Up (flat d y) := h2.2.2.2
 have huy2 := huy
 rw [hy] at huy2
 have h3 := up_mid (X := []) huy2
 refine ⟨huy, by rw [hy]; exact has_hit (X := []) g.val, ?_⟩
 have e2 : preF d K1 A ++ (flat d x ++ ⟨k, u⟩ :: flat d y) ++ postF d K2 B = (preF d K1 A ++ flat d x) ++ ⟨k, u⟩ :: (flat d y ++ postF d K2 B) := by simp
 rw [e2] at hu ⊢
 obtain ⟨m1, m2, _, _⟩ := up_mid hu
 have h4 : delL (g :: Z) g.key = Z := by
  have := del_hit (X := []) (Y := Z) (k := g.key) (by intro z hz; cases hz) h3.2.1 g.val
  exact this
 rw [del_hit m1 m2 u, preF_snoc g x K1 A hA, hy, h4]
 simp
theorem del_mid2 (hA : K1.length = A.length) (hu : Up (flat (d + 1) (K1 ++ ⟨k, u⟩ :: K2, A ++ x :: y :: B))) (hc : flat d cm = flat d x ++ ⟨k, u⟩ :: flat d y) :
 Up (flat d cm) ∧ hasL (flat d cm) k = true ∧ delL (flat (d + 1) (K1 ++ ⟨k, u⟩ :: K2, A ++ x :: y :: B)) k = preF d K1 A ++ delL (flat d cm) k ++ postF d K2 B := by
 have e1 := flat_2 K1 K2 ⟨k, u⟩ A B x y hA
 rw [e1] at hu ⊢
 have h1 := up_app (up_app hu).1
 have h2 := up_mid h1.2
 refine ⟨by rw [hc]; exact h1.2, by rw [hc]; exact has_hit u, ?_⟩
 have e2 : preF d K1 A ++ (flat d x ++ ⟨k, u⟩ :: flat d y) ++ postF d K2 B = (preF d K1 A ++ flat d x) ++ ⟨k, u⟩ :: (flat d y ++ postF d K2 B) := by simp
 rw [e2] at hu ⊢
 obtain ⟨m1, m2, _, _⟩ := up_mid hu
 rw [del_hit m1 m2 u, hc, del_hit h2.1 h2.2.1 u]
 simp
end
attribute [local irreducible] J JL QOp JOp seqQ blockQ loopQ retQ slc cel hex star pur stars Does RV Ent pAt scopeQ
attribute [local irreducible] nodeA nodeX treeA
theorem edgeT_ok (E : World) (d0 p0 m0 : Nat) (t0 : T d0) (hw0 : wf m0 d0 t0) (hm0 : 1 ≤ m0) : Does Tryz.prog E 166 [.pointer (some ⟨p0, 0, none⟩), .bool true] [nodeA d0 p0 t0]
 fun v L => ∃ (Z : List Kv) (g : Kv), flat d0 t0 = Z ++ [g] ∧ v = .agg (kvV g).toArray ∧ L = [nodeA d0 p0 t0] := by
 refine Does.of Tryz.func166 rfl Tryz.ntmps166 rfl rfl fun F => ?_
 refine J.norm ?_
 refine Sr ?_
 refine L_o rfl rfl rfl (O_alloc fun b4 => ?_)
 refine Ln ?_
 refine J_seq ?_
 refine J_block ?_
 refine J_loop (fun i : It => wf i.m i.d i.t ∧ 1 ≤ i.m ∧ (∃ Z, flat d0 t0 = Z ++ flat i.d i.t) ∧ Ent [nodeA i.d i.p i.t, i.G] [nodeA d0 p0 t0, F])
  (fun i => [(0, .pointer (some ⟨i.p, 0, none⟩)), (1, .bool true), (4, .pointer (some ⟨b4, 0, none⟩))]) (fun i => [nodeA i.d i.p i.t, cel b4 (kvV ⟨[], []⟩) 111, i.G]) (fun i => i.d) ⟨d0, p0, m0, t0, F⟩ ⟨hw0, hm0, ⟨[], by simp⟩, Ent.refl _⟩ ⟨rfl, rfl, rfl, trivial⟩ (Ent.re [1,0,2] rfl) ?_
 rintro ⟨d, p, m, t, G⟩ ⟨hw, hm, ⟨Z, hZ⟩, hcl⟩
 dsimp only at hw hm hZ hcl ⊢
 have hk7 := wf_ks hw
 cases d with
 | zero =>
  refine J.leaf fun S R => ?_
  have ef : flat 0 t = tks 0 t := rfl
  rw [ef] at hZ
  generalize hks : tks 0 t = K at *
  obtain ⟨Ki, g, rfl⟩ := snoc_of (l := K) (by omega)
  have hgl : Ki.length < (Ki ++ [g]).length := by simp
  have hgg : (Ki ++ [g])[Ki.length] = g := get_mid rfl hgl
  have hsb : ((Ki ++ [g]).length : Int) - 1 = (Ki.length : Int) := by simp
  simp only [List.length_append, List.length_singleton] at hk7
  refine J_seq ?_
  refine Sr ?_
  refine Lq (Q_move rfl) ?_
  refine L_o rfl rfl rfl (O_call [0,2] [1,3,4] (leaf_ok E p S R []) rfl rfl ?_)
  rintro _ _ ⟨rfl, rfl⟩
  refine JL.norm ?_
  refine Lq ((Q_not rfl).as (v' := .bool false) rfl) ?_
  refine Ln ?_
  refine J_condF rfl ?_
  refine J_exit ?_
  refine seqQ_exit ?_
  refine loopQ_exit ?_
  refine blockQ_hit ?_
  refine seqQ_normal ?_
  refine J_seq ?_
  refine Sr ?_
  refine Lq (Q_move rfl) ?_
  refine Ln ?_
  refine J_condT rfl ?_
  refine J_seq ?_
  refine DH [0,2] [0,1,2,3,4,5,6,7,8,9,10,11] (.quiet 0 (.quiet 1 (.quiet 2 (.quiet 3 (.quiet 4 (.quiet 5 (.quiet 6 (.quiet 7 (.quiet 8 (.quiet 9 (.quiet 10 (.quiet 11 (.loud 12 .done))))))))))))) Tryz.mixed ?_
  refine Sq (Ent.re [0,2] rfl) rfl (Q_move rfl) ?_
  refine Sq (Ent.re [0,2] rfl) rfl (Q_nilCheck rfl) ?_
  refine Sq (Ent.re [0,2] rfl) rfl (Q_fa0 rfl) ?_
  refine Sq (Ent.re [0,2] rfl) rfl (Q_ld 0 rfl rfl rfl rfl) ?_
  refine Sq (Ent.re [0,2] rfl) rfl (Q_move rfl) ?_
  refine Sq (Ent.re [0,2] rfl) rfl (Q_nilCheck rfl) ?_
  refine Sq (Ent.re [0,2] rfl) rfl (Q_fa0 rfl) ?_
  refine Sq (Ent.re [0,2] rfl) rfl (Q_ld 0 rfl rfl rfl rfl) ?_
  refine Sq (Ent.re [0,2] rfl) rfl (Q_lenAt 1 rfl rfl) ?_
  refine Sq (Ent.re [0,2] rfl) rfl (Q_sub (r := (Ki.length : Int)) rfl rfl (by rw [hsb]; exact IntWalk.i64_in _ (by omega))) ?_
  refine Sq (Ent.re [0,2] rfl) rfl (Q_ixAt 1 Ki.length rfl rfl rfl rfl hgl rfl) ?_
  refine Sq (Ent.re [0,2] rfl) rfl (Q_ldEAAt 1 Ki.length 0 (vs := kvV g) rfl rfl rfl rfl hgl (by decide) (by rw [hgg]; rfl)) ?_
  refine S_s rfl rfl rfl (O_stW 3 rfl rfl rfl rfl ⟨[], free_no (by kernel_rfl), ?_⟩)
  refine JS.norm ?_
  refine S_nil ?_
  refine seqQ_normal ?_
  refine J_ret ?_
  refine seqQ_ret ?_
  refine retQ_ret _ [nodeA d0 p0 t0] (.cons (RV_cell 3 rfl rfl rfl rfl) .nil) ⟨Z ++ Ki, g, by rw [hZ]; simp, rfl, rfl⟩ ((Ent.re [0,2,1,4] rfl).trans ?_)
  rw [← hks]
  exact Ent.leafA.trans hcl
 | succ d =>
  obtain ⟨K, C⟩ := t
  refine J.inner fun S R es hes => ?_
  obtain ⟨h1, h7, hC, hwc⟩ := hw
  dsimp only at hes h1 h7 hC hwc ⊢
  subst hes
  rw [List.length_map] at hC
  have hlf := leaf_ok E p S R (pL es)
  rw [show decide (((pL es).length : Int) = 0) = false from decide_eq_false (by rw [pL_len]; omega)] at hlf
  obtain ⟨A, e, rfl⟩ := snoc_of (l := es) (by omega)
  have hAK : K.length = A.length := by simp at hC; omega
  have hPl : A.length < (pL (A ++ e :: [])).length := by rw [pL_len]; simp
  have hPg : (pL (A ++ e :: []))[A.length] = some e.1 := mid_get _ A [] e hPl
  have hsb : ((pL (A ++ [e])).length : Int) - 1 = (A.length : Int) := by rw [pL_len]; simp
  have hfl : flat (d + 1) (K, (A ++ [e]).map (·.2)) = preF d K (A.map (·.2)) ++ flat d e.2 := by
   rw [List.map_append]; exact flat_last (by simpa using hAK)
  refine J_seq ?_
  refine Sr ?_
  refine Lq (Q_move rfl) ?_
  refine L_o rfl rfl rfl (O_call [0,2] [1,3,4,5] hlf rfl rfl ?_)
  rintro _ _ ⟨rfl, rfl⟩
  refine JL.norm ?_
  refine Lq ((Q_not rfl).as (v' := .bool true) rfl) ?_
  refine Ln ?_
  refine J_condT rfl ?_
  refine J_skip ?_
  refine seqQ_normal ?_
  refine J_block ?_
  refine Sr ?_
  refine Lq (Q_move rfl) ?_
  refine Ln ?_
  refine J_condT rfl ?_
  refine DH [0,1] [0,1,2,3,4,5,6,7,8,9,10,11,12] (.quiet 0 (.quiet 1 (.quiet 2 (.quiet 3 (.quiet 4 (.quiet 5 (.quiet 6 (.quiet 7 (.quiet 8 (.quiet 9 (.quiet 10 (.quiet 11 (.quiet 12 .done))))))))))))) Tryz.mixed ?_
  refine Sq (Ent.re [0,1] rfl) rfl (Q_move rfl) ?_
  refine Sq (Ent.re [0,1] rfl) rfl (Q_nilCheck rfl) ?_
  refine Sq (Ent.re [0,1] rfl) rfl (Q_fa0 rfl) ?_
  refine Sq (Ent.re [0,1] rfl) rfl (Q_ld 0 rfl rfl rfl rfl) ?_
  refine Sq (Ent.re [0,1] rfl) rfl (Q_move rfl) ?_
  refine Sq (Ent.re [0,1] rfl) rfl (Q_nilCheck rfl) ?_
  refine Sq (Ent.re [0,1] rfl) rfl (Q_fa0 rfl) ?_
  refine Sq (Ent.re [0,1] rfl) rfl (Q_ld 0 rfl rfl rfl rfl) ?_
  refine Sq (Ent.re [0,1] rfl) rfl (Q_lenAt 1 rfl rfl) ?_
  refine Sq (Ent.re [0,1] rfl) rfl (Q_sub (r := (A.length : Int)) rfl rfl (by rw [hsb]; exact IntWalk.i64_in _ (by omega))) ?_
  refine Sq (Ent.re [0,1] rfl) rfl (Q_ixAt 1 A.length rfl rfl rfl rfl hPl rfl) ?_
  refine Sq (Ent.re [0,1] rfl) rfl (Q_ldEAt 1 A.length 0 (v := .pointer (some ⟨e.1, 0, none⟩)) rfl rfl rfl rfl hPl (by decide) (by rw [hPg]; rfl)) ?_
  refine Sq (Ent.re [0,1] rfl) rfl (Q_assign rfl) ?_
  refine S_nil ?_
  refine blockQ_normal ?_
  refine loopQ_normal ⟨d, e.1, 3, e.2, stars (parL p S R K (pL A ++ some e.1 :: pL []) (A ++ []) G)⟩ ⟨hwc e.2 (by simp), (by show 1 ≤ 3; decide), ⟨Z ++ preF d K (A.map (·.2)), by rw [hZ, hfl]; simp⟩, Ent.up.trans hcl⟩ (Nat.lt_succ_self d) ⟨rfl, rfl, rfl, trivial⟩ ((Ent.re [0,2,1,3,4,5] rfl).trans Ent.down)
theorem edgeF_ok (E : World) (d0 p0 m0 : Nat) (t0 : T d0) (hw0 : wf m0 d0 t0) (hm0 : 1 ≤ m0) : Does Tryz.prog E 166 [.pointer (some ⟨p0, 0, none⟩), .bool false] [nodeA d0 p0 t0]
 fun v L => ∃ (Z : List Kv) (g : Kv), flat d0 t0 = g :: Z ∧ v = .agg (kvV g).toArray ∧ L = [nodeA d0 p0 t0] := by
 refine Does.of Tryz.func166 rfl Tryz.ntmps166 rfl rfl fun F => ?_
 refine J.norm ?_
 refine Sr ?_
 refine L_o rfl rfl rfl (O_alloc fun b4 => ?_)
 refine Ln ?_
 refine J_seq ?_
 refine J_block ?_
 refine J_loop (fun i : It => wf i.m i.d i.t ∧ 1 ≤ i.m ∧ (∃ Z, flat d0 t0 = flat i.d i.t ++ Z) ∧ Ent [nodeA i.d i.p i.t, i.G] [nodeA d0 p0 t0, F])
  (fun i => [(0, .pointer (some ⟨i.p, 0, none⟩)), (1, .bool false), (4, .pointer (some ⟨b4, 0, none⟩))]) (fun i => [nodeA i.d i.p i.t, cel b4 (kvV ⟨[], []⟩) 111, i.G]) (fun i => i.d) ⟨d0, p0, m0, t0, F⟩ ⟨hw0, hm0, ⟨[], by simp⟩, Ent.refl _⟩ ⟨rfl, rfl, rfl, trivial⟩ (Ent.re [1,0,2] rfl) ?_
 rintro ⟨d, p, m, t, G⟩ ⟨hw, hm, ⟨Z, hZ⟩, hcl⟩
 dsimp only at hw hm hZ hcl ⊢
 have hk7 := wf_ks hw
 cases d with
 | zero =>
  refine J.leaf fun S R => ?_
  have ef : flat 0 t = tks 0 t := rfl
  rw [ef] at hZ
  generalize hks : tks 0 t = K at *
  obtain ⟨g, Ki, rfl⟩ := cons_of (l := K) (by omega)
  have hgl : 0 < (g :: Ki).length := Nat.succ_pos _
  refine J_seq ?_
  refine Sr ?_
  refine Lq (Q_move rfl) ?_
  refine L_o rfl rfl rfl (O_call [0,2] [1,3,4] (leaf_ok E p S R []) rfl rfl ?_)
  rintro _ _ ⟨rfl, rfl⟩
  refine JL.norm ?_
  refine Lq ((Q_not rfl).as (v' := .bool false) rfl) ?_
  refine Ln ?_
  refine J_condF rfl ?_
  refine J_exit ?_
  refine seqQ_exit ?_
  refine loopQ_exit ?_
  refine blockQ_hit ?_
  refine seqQ_normal ?_
  refine J_seq ?_
  refine Sr ?_
  refine Lq (Q_move rfl) ?_
  refine Ln ?_
  refine J_condF rfl ?_
  refine J_skip ?_
  refine seqQ_normal ?_
  refine Sr ?_
  refine Lq (Q_move rfl) ?_
  refine Lq (Q_nilCheck rfl) ?_
  refine Lq (Q_fa0 rfl) ?_
  refine Lq (Q_ld 0 rfl rfl rfl rfl) ?_
  refine Lq (Q_ixAt 2 0 rfl rfl rfl rfl hgl rfl) ?_
  refine Lq (Q_ldEAAt 2 0 0 (vs := kvV g) rfl rfl rfl rfl hgl (by decide) rfl) ?_
  refine L_s rfl rfl (O_stW 3 rfl rfl rfl rfl ?_)
  refine JL.norm ?_
  refine Ln ?_
  refine J_ret ?_
  refine retQ_ret _ [nodeA d0 p0 t0] (.cons (RV_cell 3 rfl rfl rfl rfl) .nil) ⟨Ki ++ Z, g, by rw [hZ]; simp, rfl, rfl⟩ ((Ent.re [0,2,1,4] rfl).trans ?_)
  rw [← hks]
  exact Ent.leafA.trans hcl
 | succ d =>
  obtain ⟨K, C⟩ := t
  refine J.inner fun S R es hes => ?_
  obtain ⟨h1, h7, hC, hwc⟩ := hw
  dsimp only at hes h1 h7 hC hwc ⊢
  subst hes
  rw [List.length_map] at hC
  have hlf := leaf_ok E p S R (pL es)
  rw [show decide (((pL es).length : Int) = 0) = false from decide_eq_false (by rw [pL_len]; omega)] at hlf
  obtain ⟨e, B, rfl⟩ := cons_of (l := es) (by omega)
  have hPl : 0 < (pL (e :: B)).length := Nat.succ_pos _
  have hfl : flat (d + 1) (K, (e :: B).map (·.2)) = flat d e.2 ++ postF d K (B.map (·.2)) := flat_first
  refine J_seq ?_
  refine Sr ?_
  refine Lq (Q_move rfl) ?_
  refine L_o rfl rfl rfl (O_call [0,2] [1,3,4,5] hlf rfl rfl ?_)
  rintro _ _ ⟨rfl, rfl⟩
  refine JL.norm ?_
  refine Lq ((Q_not rfl).as (v' := .bool true) rfl) ?_
  refine Ln ?_
  refine J_condT rfl ?_
  refine J_skip ?_
  refine seqQ_normal ?_
  refine J_block ?_
  refine Sr ?_
  refine Lq (Q_move rfl) ?_
  refine Ln ?_
  refine J_condF rfl ?_
  refine J_region ?_
  refine Lq (Q_move rfl) ?_
  refine Lq (Q_nilCheck rfl) ?_
  refine Lq (Q_fa0 rfl) ?_
  refine Lq (Q_ld 0 rfl rfl rfl rfl) ?_
  refine Lq (Q_ixAt 1 0 rfl rfl rfl rfl hPl rfl) ?_
  refine Lq (Q_ldEAt 1 0 0 (v := .pointer (some ⟨e.1, 0, none⟩)) rfl rfl rfl rfl hPl (by decide) rfl) ?_
  refine Lq (Q_assign rfl) ?_
  refine JL_nil ?_
  refine blockQ_normal ?_
  refine loopQ_normal ⟨d, e.1, 3, e.2, stars (parL p S R K (pL [] ++ some e.1 :: pL B) ([] ++ B) G)⟩ ⟨hwc e.2 (by simp), (by show 1 ≤ 3; decide), ⟨postF d K (B.map (·.2)) ++ Z, by rw [hZ, hfl]; simp⟩, (Ent.up (A := [])).trans hcl⟩ (Nat.lt_succ_self d) ⟨rfl, rfl, rfl, trivial⟩ ((Ent.re [0,2,1,3,4,5] rfl).trans (Ent.down (A := [])))
end Go.Proofs.Bt
