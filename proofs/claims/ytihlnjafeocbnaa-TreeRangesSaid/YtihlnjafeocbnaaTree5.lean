/- Two children of a node merged, or a pair moved from one to the other. -/
import Derived.Test.YtihlnjafeocbnaaTree4
set_option autoImplicit false
namespace Go.SL
/-- A slice's beginning. -/
theorem Ent.begin {α : Type} {τ : Ty α} {L : List HProp} (i : Nat) {S : SV} {l : List α} (hi : L[i]? = some (slc τ true S l)) (k : Nat) (hk : k ≤ l.length) : Ent L (L.set i (slc τ true (S.sub τ.sz 0 k) (l.take k))) := fun E w h => by
  have h1 := h.sub_at i hi 0 k (Nat.zero_le _) hk
  rw [List.drop_zero] at h1
  exact h1
end Go.SL
namespace Go.Proofs
open Go.SL
theorem Ent.two_out {d : Nat} {A B : List (Nat × T d)} {x y : Nat × T d} {X Y Z F : HProp} : Ent [X, Y, Z, stars ((A ++ x :: y :: B).map (ndE d)), F] [nodeA d x.1 x.2, nodeA d y.1 y.2, stars ((A ++ B).map (ndE d)), X, Y, Z, F] :=
  (Ent.re [3, 0, 1, 2, 4] rfl).trans ((Ent.mid_out (ndE d) A x (y :: B)).trans ((Ent.re [1, 0, 2, 3, 4, 5] rfl).trans ((Ent.mid_out (ndE d) A y B).trans (Ent.re [2, 0, 1, 3, 4, 5, 6] rfl))))
theorem Ent.two_back {d : Nat} {A B : List (Nat × T d)} {x y : Nat × T d} {X Y Z F : HProp} : Ent [nodeA d x.1 x.2, nodeA d y.1 y.2, stars ((A ++ B).map (ndE d)), X, Y, Z, F] ([X, Y, Z, stars ((A ++ x :: y :: B).map (ndE d))] ++ [F]) :=
  (Ent.re [1, 2, 0, 3, 4, 5, 6] rfl).trans (two_in A B x.1 y.1 x.2 y.2 X Y Z F)
theorem del_mid {α : Type} {X Y : List α} {x : α} {i : Nat} (h : X.length = i) : (X ++ x :: Y).take i ++ (X ++ x :: Y).drop (i + 1) = X ++ Y := by
  subst h
  rw [List.take_left]
  have := List.drop_left (l₁ := X ++ [x]) (l₂ := Y)
  simp only [List.length_append, List.length_singleton, List.append_assoc, List.singleton_append] at this
  rw [this]
theorem pL_2 {d : Nat} (A B : List (Nat × T d)) (x y : Nat × T d) : pL (A ++ x :: y :: B) = (pL A ++ [some x.1]) ++ some y.1 :: pL B := by simp [pL]
theorem pL_1 {d : Nat} (A B : List (Nat × T d)) (x : Nat × T d) : pL (A ++ x :: B) = (pL A ++ [some x.1]) ++ pL B := by simp [pL]
theorem pL_get1 {d : Nat} (A B : List (Nat × T d)) (x y : Nat × T d) (h : A.length < (pL (A ++ x :: y :: B)).length) : (pL (A ++ x :: y :: B))[A.length] = some x.1 := mid_get _ A (y :: B) x h
theorem pL_get2 {d : Nat} (A B : List (Nat × T d)) (x y : Nat × T d) (h : A.length + 1 < (pL (A ++ x :: y :: B)).length) : (pL (A ++ x :: y :: B))[A.length + 1] = some y.1 := by
  have e : (pL (A ++ x :: y :: B))[A.length + 1]? = some (some y.1) := by
    rw [pL_2, List.getElem?_append_right (by simp [pL_len])]; simp [pL_len]
  rw [List.getElem?_eq_getElem h] at e
  exact Option.some.inj e
attribute [local irreducible] J JL QOp JOp seqQ blockQ loopQ retQ slc cel hex star pur stars Does RV Ent pAt scopeQ
attribute [local irreducible] nodeA nodeX treeA
theorem merge_ok (E : World) (d p : Nat) (S R : SV) (K1 K2 : List Kv) (k : Kv) (A B : List (Nat × T d)) (x y : Nat × T d) (hA : K1.length = A.length) (hx : wf 3 d x.2) (hy : wf 3 d y.2) (hx3 : (tks d x.2).length = 3) (hy3 : (tks d y.2).length = 3) (hK : K1.length + K2.length ≤ 1000) (hB : A.length + B.length ≤ 1000) :
    Does Try.prog E 41 [.pointer (some ⟨p, 0, none⟩), .int .i64 (A.length : Int)] [ndC p S R, slc tKv true S (K1 ++ k :: K2), slc tNd true R (pL (A ++ x :: y :: B)), stars ((A ++ x :: y :: B).map (ndE d))]
    fun v L => v = .tuple #[] ∧ ∃ (S' R' : SV) (cm : T d), flat d cm = flat d x.2 ++ k :: flat d y.2 ∧ wf 7 d cm ∧ (tks d cm).length = 7 ∧ L = [ndC p S' R', slc tKv true S' (K1 ++ K2), slc tNd true R' (pL (A ++ (x.1, cm) :: B)), stars ((A ++ (x.1, cm) :: B).map (ndE d))] := by
  obtain ⟨qx, cx⟩ := x
  obtain ⟨qy, cy⟩ := y
  dsimp only at hx hy hx3 hy3 ⊢
  have hKl : A.length < (K1 ++ k :: K2).length := by simp; omega
  have hKg : (K1 ++ k :: K2)[A.length] = k := get_mid hA hKl
  have hP1 : A.length < (pL (A ++ (qx, cx) :: (qy, cy) :: B)).length := by rw [pL_len]; simp
  have hP2 : A.length + 1 < (pL (A ++ (qx, cx) :: (qy, cy) :: B)).length := by rw [pL_len]; simp
  have hP3 : A.length + 2 ≤ (pL (A ++ (qx, cx) :: (qy, cy) :: B)).length := by rw [pL_len]; simp
  have hPb : (pL (A ++ (qx, cx) :: (qy, cy) :: B)).length ≤ 100000 := by rw [pL_len]; simp; omega
  have g1 := pL_get1 A B (qx, cx) (qy, cy) hP1
  have g2 := pL_get2 A B (qx, cx) (qy, cy) hP2
  have eK : (K1 ++ k :: K2).take A.length ++ (K1 ++ k :: K2).drop (A.length + 1) = K1 ++ K2 := del_mid hA
  have eP : ∀ cm : T d, (pL (A ++ (qx, cx) :: (qy, cy) :: B)).take (A.length + 1) ++ (pL (A ++ (qx, cx) :: (qy, cy) :: B)).drop (A.length + 2) = pL (A ++ (qx, cm) :: B) := fun cm => by
    rw [pL_2, del_mid (by simp [pL_len]), pL_1]
  refine Does.of Try.func41 rfl Try.ntmps41 rfl rfl fun F => ?_
  refine J.norm ?_
  refine J_seq ?_
  refine J_drawH [0,2] [0, 1, 2, 3, 4, 5, 6, 7, 8, 9, 10, 11, 12, 13, 14, 15, 16] (.quiet 0 (.quiet 1 (.quiet 2 (.quiet 3 (.quiet 4 (.quiet 5 (.quiet 6 (.quiet 7 (.quiet 8 (.quiet 9 (.quiet 10 (.quiet 11 (.quiet 12 (.quiet 13 (.quiet 14 (.quiet 15 (.quiet 16 .done))))))))))))))))) Try.mixed (by kernel_rfl) (by kernel_rfl) (by repeat (first | exact retQ_noP | refine seqQ_noP ?_ | refine blockQ_noP ?_ | refine loopQ_noP ?_ | refine scopeQ_noP ?_ | (intro _ _ _ h; cases h.1))) ?_
  refine S_q (Ent.re [0,2] rfl) rfl (Q_move rfl) rfl rfl rfl ?_
  refine S_q (Ent.re [0,2] rfl) rfl (Q_nilCheck rfl) rfl rfl rfl ?_
  refine S_q (Ent.re [0,2] rfl) rfl (Q_fa0 rfl) rfl rfl rfl ?_
  refine S_q (Ent.re [0,2] rfl) rfl (Q_ld 0 rfl rfl rfl rfl) rfl rfl rfl ?_
  refine S_q (Ent.re [0,2] rfl) rfl (Q_move rfl) rfl rfl rfl ?_
  refine S_q (Ent.re [0,2] rfl) rfl (Q_ixAt 1 A.length rfl rfl rfl rfl hP1 rfl) rfl rfl rfl ?_
  refine S_q (Ent.re [0,2] rfl) rfl (Q_ldEAt 1 A.length 0 (v := .pointer (some ⟨qx, 0, none⟩)) rfl rfl rfl rfl hP1 (by decide) (by rw [g1]; rfl)) rfl rfl rfl ?_
  refine S_q (Ent.re [0,2] rfl) rfl (Q_move rfl) rfl rfl rfl ?_
  refine S_q (Ent.re [0,2] rfl) rfl (Q_nilCheck rfl) rfl rfl rfl ?_
  refine S_q (Ent.re [0,2] rfl) rfl (Q_fa0 rfl) rfl rfl rfl ?_
  refine S_q (Ent.re [0,2] rfl) rfl (Q_ld 0 rfl rfl rfl rfl) rfl rfl rfl ?_
  refine S_q (Ent.re [0,2] rfl) rfl (Q_move rfl) rfl rfl rfl ?_
  refine S_q (Ent.re [0,2] rfl) rfl (Q_add rfl rfl (by first | exact IntWalk.i64_in _ (by omega) | exact IntWalk.u8_in _ (by omega) | exact IntWalk.u32_in _ (by omega) | exact IntWalk.u64_in _ (by omega) | rfl)) rfl rfl rfl ?_
  refine S_q (Ent.re [0,2] rfl) rfl (Q_ixAt 1 (A.length + 1) rfl rfl rfl rfl hP2 rfl) rfl rfl rfl ?_
  refine S_q (Ent.re [0,2] rfl) rfl (Q_ldEAt 1 (A.length + 1) 0 (v := .pointer (some ⟨qy, 0, none⟩)) rfl rfl rfl rfl hP2 (by decide) (by rw [g2]; rfl)) rfl rfl rfl ?_
  refine S_q (Ent.re [0,2] rfl) rfl (Q_assign rfl) rfl rfl rfl ?_
  refine S_q (Ent.re [0,2] rfl) rfl (Q_assign rfl) rfl rfl rfl ?_
  refine S_nil ?_
  refine seqQ_normal ?_
  refine J_seq ?_
  refine J.ent Ent.two_out ?_
  cases d with
  | zero =>
    refine J.leaf fun Sx Rx => J.ent (Ent.re [3, 0, 1, 2, 4, 5, 6, 7, 8] rfl) (J.leaf fun Sy Ry => ?_)
    dsimp only
    have hxl : (tks 0 cx).length = 3 := hx3
    have hyl : (tks 0 cy).length = 3 := hy3
    refine J_drawH [3,7,8,0] [0, 1, 2, 3, 4, 5, 6, 7, 8, 9, 10, 11, 14, 15, 16, 17, 19, 20] (.quiet 0 (.quiet 1 (.quiet 2 (.quiet 3 (.quiet 4 (.quiet 5 (.quiet 6 (.quiet 7 (.quiet 8 (.quiet 9 (.quiet 10 (.quiet 11 (.quiet 14 (.quiet 15 (.quiet 16 (.quiet 17 (.loud 12 (.loud 13 (.loud 18 (.quiet 19 (.quiet 20 (.loud 21 .done)))))))))))))))))))))) Try.mixed (by kernel_rfl) (by kernel_rfl) (by repeat (first | exact retQ_noP | refine seqQ_noP ?_ | refine blockQ_noP ?_ | refine loopQ_noP ?_ | refine scopeQ_noP ?_ | (intro _ _ _ h; cases h.1))) ?_
    refine S_q (Ent.re [3,7,8,0] rfl) rfl (Q_move rfl) rfl rfl rfl ?_
    refine S_q (Ent.re [3,7,8,0] rfl) rfl (Q_move rfl) rfl rfl rfl ?_
    refine S_q (Ent.re [3,7,8,0] rfl) rfl (Q_nilCheck rfl) rfl rfl rfl ?_
    refine S_q (Ent.re [3,7,8,0] rfl) rfl (Q_fa0 rfl) rfl rfl rfl ?_
    refine S_q (Ent.re [3,7,8,0] rfl) rfl (Q_ld 0 rfl rfl rfl rfl) rfl rfl rfl ?_
    refine S_q (Ent.re [3,7,8,0] rfl) rfl (Q_move rfl) rfl rfl rfl ?_
    refine S_q (Ent.re [3,7,8,0] rfl) rfl (Q_nilCheck rfl) rfl rfl rfl ?_
    refine S_q (Ent.re [3,7,8,0] rfl) rfl (Q_fa0 rfl) rfl rfl rfl ?_
    refine S_q (Ent.re [3,7,8,0] rfl) rfl (Q_ld 1 rfl rfl rfl rfl) rfl rfl rfl ?_
    refine S_q (Ent.re [3,7,8,0] rfl) rfl (Q_move rfl) rfl rfl rfl ?_
    refine S_q (Ent.re [3,7,8,0] rfl) rfl (Q_ixAt 2 A.length rfl rfl rfl rfl hKl rfl) rfl rfl rfl ?_
    refine S_q (Ent.re [3,7,8,0] rfl) rfl (Q_ldEAAt 2 A.length 0 (vs := kvV k) rfl rfl rfl rfl hKl (by decide) (by rw [hKg]; rfl)) rfl rfl rfl ?_
    refine S_q (Ent.re [3,7,8,0] rfl) rfl (Q_move rfl) rfl rfl rfl ?_
    refine S_q (Ent.re [3,7,8,0] rfl) rfl (Q_nilCheck rfl) rfl rfl rfl ?_
    refine S_q (Ent.re [3,7,8,0] rfl) rfl (Q_fa0 rfl) rfl rfl rfl ?_
    refine S_q (Ent.re [3,7,8,0] rfl) rfl (Q_ld 3 rfl rfl rfl rfl) rfl rfl rfl ?_
    refine S_o rfl rfl rfl rfl (O_litP (τ := tKv) (m := 1) (sz := 2) [k] rfl rfl rfl rfl rfl rfl (by decide) (fun U => ⟨_, fun _ => ⟨Ent.reN [4,8,9,1] rfl, Ent.refl _⟩, ?_⟩))
    refine JS.norm ?_
    refine S_o rfl rfl rfl rfl (O_app (τ := tKv) 5 rfl (fun w h => h.rd 0 rfl) rfl rfl rfl rfl (by simp only [List.length_singleton]; omega) (by decide) (fun V => ⟨_, fun _ => ⟨Ent.reN [4,8,9,1] rfl, Ent.refl _⟩, ?_⟩))
    refine JS.norm ?_
    refine S_o rfl rfl rfl rfl (O_app (τ := tKv) 5 rfl (fun w h => h.rd 2 rfl) rfl rfl rfl rfl (by simp only [List.length_append, List.length_singleton]; omega) (by decide) (fun W => ⟨_, fun _ => ⟨Ent.reN [4,8,9,1] rfl, Ent.refl _⟩, ?_⟩))
    refine JS.norm ?_
    refine S_q (Ent.re [4,8,9,1] rfl) rfl (Q_nilCheck rfl) rfl rfl rfl ?_
    refine S_q (Ent.re [4,8,9,1] rfl) rfl (Q_fa0 rfl) rfl rfl rfl ?_
    refine S_s rfl rfl rfl (O_st1 4 rfl rfl rfl rfl rfl ⟨[], free_no (by kernel_rfl), ?_⟩)
    refine JS.norm ?_
    refine S_nil ?_
    refine seqQ_normal ?_
    refine J_seq ?_
    refine J_drawH [4,1] [0, 1, 2, 3, 4, 5, 6, 7, 8, 10, 11] (.quiet 0 (.quiet 1 (.quiet 2 (.quiet 3 (.quiet 4 (.quiet 5 (.quiet 6 (.quiet 7 (.quiet 8 (.loud 9 (.quiet 10 (.quiet 11 (.loud 12 .done))))))))))))) Try.mixed (by kernel_rfl) (by kernel_rfl) (by repeat (first | exact retQ_noP | refine seqQ_noP ?_ | refine blockQ_noP ?_ | refine loopQ_noP ?_ | refine scopeQ_noP ?_ | (intro _ _ _ h; cases h.1))) ?_
    refine S_q (Ent.re [4,1] rfl) rfl (Q_move rfl) rfl rfl rfl ?_
    refine S_q (Ent.re [4,1] rfl) rfl (Q_move rfl) rfl rfl rfl ?_
    refine S_q (Ent.re [4,1] rfl) rfl (Q_nilCheck rfl) rfl rfl rfl ?_
    refine S_q (Ent.re [4,1] rfl) rfl (Q_fa0 rfl) rfl rfl rfl ?_
    refine S_q (Ent.re [4,1] rfl) rfl (Q_ld 0 rfl rfl rfl rfl) rfl rfl rfl ?_
    refine S_q (Ent.re [4,1] rfl) rfl (Q_move rfl) rfl rfl rfl ?_
    refine S_q (Ent.re [4,1] rfl) rfl (Q_nilCheck rfl) rfl rfl rfl ?_
    refine S_q (Ent.re [4,1] rfl) rfl (Q_fa0 rfl) rfl rfl rfl ?_
    refine S_q (Ent.re [4,1] rfl) rfl (Q_ld 1 rfl rfl rfl rfl) rfl rfl rfl ?_
    refine S_o rfl rfl rfl rfl (O_app (τ := tNd) 6 rfl (fun w h => h.rd 3 rfl) rfl rfl rfl rfl (by simp only [List.length_nil]; omega) (by decide) (fun Rx2 => ⟨_, fun _ => ⟨Ent.reN [4,1] rfl, Ent.refl _⟩, ?_⟩))
    refine JS.norm ?_
    refine S_q (Ent.re [4,1] rfl) rfl (Q_nilCheck rfl) rfl rfl rfl ?_
    refine S_q (Ent.re [4,1] rfl) rfl (Q_fa0 rfl) rfl rfl rfl ?_
    refine S_s rfl rfl rfl (O_st1 4 rfl rfl rfl rfl rfl ⟨[], free_no (by kernel_rfl), ?_⟩)
    refine JS.norm ?_
    refine S_nil ?_
    refine seqQ_normal ?_
    refine J_seq ?_
    refine J_region ?_
    refine L_q (Q_move rfl) rfl rfl rfl ?_
    refine L_q (Q_move rfl) rfl rfl rfl ?_
    refine L_q (Q_nilCheck rfl) rfl rfl rfl ?_
    refine L_q (Q_fa0 rfl) rfl rfl rfl ?_
    refine L_q (Q_ld 8 rfl rfl rfl rfl) rfl rfl rfl ?_
    refine L_q (Q_move rfl) rfl rfl rfl ?_
    refine L_q (Q_move rfl) rfl rfl rfl ?_
    refine L_q (Q_add rfl rfl (by first | exact IntWalk.i64_in _ (by omega) | exact IntWalk.u8_in _ (by omega) | exact IntWalk.u32_in _ (by omega) | exact IntWalk.u64_in _ (by omega) | rfl)) rfl rfl rfl ?_
    refine L_o rfl rfl rfl (O_call [9] [0,1,2,3,4,5,6,7,8,10,11] (kvdel_ok E S (K1 ++ k :: K2) A.length (A.length + 1) (by omega) hKl (by simp; omega)) rfl rfl ?_)
    rintro _ _ ⟨S2, rfl, rfl⟩
    refine JL.norm ?_
    refine L_q (Q_nilCheck rfl) rfl rfl rfl ?_
    refine L_q (Q_fa0 rfl) rfl rfl rfl ?_
    refine L_s rfl rfl (O_st1 9 rfl rfl rfl rfl rfl ?_)
    refine JL.norm ?_
    refine JL_nil ?_
    refine seqQ_normal ?_
    refine J_region ?_
    refine L_q (Q_move rfl) rfl rfl rfl ?_
    refine L_q (Q_move rfl) rfl rfl rfl ?_
    refine L_q (Q_nilCheck rfl) rfl rfl rfl ?_
    refine L_q (Q_fa0 rfl) rfl rfl rfl ?_
    refine L_q (Q_ld 9 rfl rfl rfl rfl) rfl rfl rfl ?_
    refine L_q (Q_move rfl) rfl rfl rfl ?_
    refine L_q (Q_add rfl rfl (by first | exact IntWalk.i64_in _ (by omega) | exact IntWalk.u8_in _ (by omega) | exact IntWalk.u32_in _ (by omega) | exact IntWalk.u64_in _ (by omega) | rfl)) rfl rfl rfl ?_
    refine L_q (Q_move rfl) rfl rfl rfl ?_
    refine L_q (Q_add rfl rfl (by first | exact IntWalk.i64_in _ (by omega) | exact IntWalk.u8_in _ (by omega) | exact IntWalk.u32_in _ (by omega) | exact IntWalk.u64_in _ (by omega) | rfl)) rfl rfl rfl ?_
    refine L_o rfl rfl rfl (O_call [10] [0,1,2,3,4,5,6,7,8,9,11] (nddel_ok E R (pL (A ++ (qx, cx) :: (qy, cy) :: B)) (A.length + 1) (A.length + 2) (by omega) hP3 hPb) rfl rfl ?_)
    rintro _ _ ⟨R2, rfl, rfl⟩
    refine JL.norm ?_
    refine L_q (Q_nilCheck rfl) rfl rfl rfl ?_
    refine L_q (Q_fa0 rfl) rfl rfl rfl ?_
    refine L_s rfl rfl (O_st1 10 rfl rfl rfl rfl rfl ?_)
    refine JL.norm ?_
    refine JL_nil ?_
    have hcl : (tks 0 cx ++ [k] ++ tks 0 cy).length = 7 := by simp only [List.length_append, List.length_singleton]; omega
    rw [eK, eP (tks 0 cx ++ [k] ++ tks 0 cy : List Kv)]
    refine retQ_normal [] _ .nil ⟨rfl, S2, R2, (tks 0 cx ++ [k] ++ tks 0 cy : List Kv), by show tks 0 cx ++ [k] ++ tks 0 cy = tks 0 cx ++ k :: tks 0 cy; simp, ⟨Nat.le_of_eq hcl.symm, Nat.le_of_eq hcl⟩, hcl, rfl⟩ ?_
    refine (Ent.re [6, 7, 8, 9, 10, 1, 0, 11] rfl).trans ?_
    refine (Ent.leafA (t := (tks 0 cx ++ [k] ++ tks 0 cy : List Kv))).trans ?_
    exact (Ent.mid_in (ndE 0) A (qx, (tks 0 cx ++ [k] ++ tks 0 cy : List Kv)) B).trans (Ent.re [1, 2, 3, 0, 4] rfl)
  | succ d =>
    obtain ⟨kx, ccx⟩ := cx
    obtain ⟨ky, ccy⟩ := cy
    refine J.inner fun Sx Rx exs hexs => J.ent (Ent.re [4, 0, 1, 2, 3, 5, 6, 7, 8, 9] rfl) (J.inner fun Sy Ry eys heys => ?_)
    dsimp only at hexs heys ⊢
    have hxl : kx.length = 3 := hx3
    have hyl : ky.length = 3 := hy3
    have hcx : ccx.length = 4 := by have h : ccx.length = kx.length + 1 := hx.2.2.1; omega
    have hcy : ccy.length = 4 := by have h : ccy.length = ky.length + 1 := hy.2.2.1; omega
    have hex : exs.length = 4 := by rw [← hcx, ← hexs, List.length_map]
    have hey : eys.length = 4 := by rw [← hcy, ← heys, List.length_map]
    refine J_drawH [4,9,10,0] [0, 1, 2, 3, 4, 5, 6, 7, 8, 9, 10, 11, 14, 15, 16, 17, 19, 20] (.quiet 0 (.quiet 1 (.quiet 2 (.quiet 3 (.quiet 4 (.quiet 5 (.quiet 6 (.quiet 7 (.quiet 8 (.quiet 9 (.quiet 10 (.quiet 11 (.quiet 14 (.quiet 15 (.quiet 16 (.quiet 17 (.loud 12 (.loud 13 (.loud 18 (.quiet 19 (.quiet 20 (.loud 21 .done)))))))))))))))))))))) Try.mixed (by kernel_rfl) (by kernel_rfl) (by repeat (first | exact retQ_noP | refine seqQ_noP ?_ | refine blockQ_noP ?_ | refine loopQ_noP ?_ | refine scopeQ_noP ?_ | (intro _ _ _ h; cases h.1))) ?_
    refine S_q (Ent.re [4,9,10,0] rfl) rfl (Q_move rfl) rfl rfl rfl ?_
    refine S_q (Ent.re [4,9,10,0] rfl) rfl (Q_move rfl) rfl rfl rfl ?_
    refine S_q (Ent.re [4,9,10,0] rfl) rfl (Q_nilCheck rfl) rfl rfl rfl ?_
    refine S_q (Ent.re [4,9,10,0] rfl) rfl (Q_fa0 rfl) rfl rfl rfl ?_
    refine S_q (Ent.re [4,9,10,0] rfl) rfl (Q_ld 0 rfl rfl rfl rfl) rfl rfl rfl ?_
    refine S_q (Ent.re [4,9,10,0] rfl) rfl (Q_move rfl) rfl rfl rfl ?_
    refine S_q (Ent.re [4,9,10,0] rfl) rfl (Q_nilCheck rfl) rfl rfl rfl ?_
    refine S_q (Ent.re [4,9,10,0] rfl) rfl (Q_fa0 rfl) rfl rfl rfl ?_
    refine S_q (Ent.re [4,9,10,0] rfl) rfl (Q_ld 1 rfl rfl rfl rfl) rfl rfl rfl ?_
    refine S_q (Ent.re [4,9,10,0] rfl) rfl (Q_move rfl) rfl rfl rfl ?_
    refine S_q (Ent.re [4,9,10,0] rfl) rfl (Q_ixAt 2 A.length rfl rfl rfl rfl hKl rfl) rfl rfl rfl ?_
    refine S_q (Ent.re [4,9,10,0] rfl) rfl (Q_ldEAAt 2 A.length 0 (vs := kvV k) rfl rfl rfl rfl hKl (by decide) (by rw [hKg]; rfl)) rfl rfl rfl ?_
    refine S_q (Ent.re [4,9,10,0] rfl) rfl (Q_move rfl) rfl rfl rfl ?_
    refine S_q (Ent.re [4,9,10,0] rfl) rfl (Q_nilCheck rfl) rfl rfl rfl ?_
    refine S_q (Ent.re [4,9,10,0] rfl) rfl (Q_fa0 rfl) rfl rfl rfl ?_
    refine S_q (Ent.re [4,9,10,0] rfl) rfl (Q_ld 3 rfl rfl rfl rfl) rfl rfl rfl ?_
    refine S_o rfl rfl rfl rfl (O_litP (τ := tKv) (m := 1) (sz := 2) [k] rfl rfl rfl rfl rfl rfl (by decide) (fun U => ⟨_, fun _ => ⟨Ent.reN [5,10,11,1] rfl, Ent.refl _⟩, ?_⟩))
    refine JS.norm ?_
    refine S_o rfl rfl rfl rfl (O_app (τ := tKv) 6 rfl (fun w h => h.rd 0 rfl) rfl rfl rfl rfl (by simp only [List.length_singleton]; omega) (by decide) (fun V => ⟨_, fun _ => ⟨Ent.reN [5,10,11,1] rfl, Ent.refl _⟩, ?_⟩))
    refine JS.norm ?_
    refine S_o rfl rfl rfl rfl (O_app (τ := tKv) 6 rfl (fun w h => h.rd 2 rfl) rfl rfl rfl rfl (by simp only [List.length_append, List.length_singleton]; omega) (by decide) (fun W => ⟨_, fun _ => ⟨Ent.reN [5,10,11,1] rfl, Ent.refl _⟩, ?_⟩))
    refine JS.norm ?_
    refine S_q (Ent.re [5,10,11,1] rfl) rfl (Q_nilCheck rfl) rfl rfl rfl ?_
    refine S_q (Ent.re [5,10,11,1] rfl) rfl (Q_fa0 rfl) rfl rfl rfl ?_
    refine S_s rfl rfl rfl (O_st1 5 rfl rfl rfl rfl rfl ⟨[], free_no (by kernel_rfl), ?_⟩)
    refine JS.norm ?_
    refine S_nil ?_
    refine seqQ_normal ?_
    refine J_seq ?_
    refine J.ent (Ent.re [1, 2, 3, 4, 5, 6, 7, 8, 9, 10, 11, 12, 13] rfl) ?_
    refine J_drawH [4,0] [0, 1, 2, 3, 4, 5, 6, 7, 8, 10, 11] (.quiet 0 (.quiet 1 (.quiet 2 (.quiet 3 (.quiet 4 (.quiet 5 (.quiet 6 (.quiet 7 (.quiet 8 (.loud 9 (.quiet 10 (.quiet 11 (.loud 12 .done))))))))))))) Try.mixed (by kernel_rfl) (by kernel_rfl) (by repeat (first | exact retQ_noP | refine seqQ_noP ?_ | refine blockQ_noP ?_ | refine loopQ_noP ?_ | refine scopeQ_noP ?_ | (intro _ _ _ h; cases h.1))) ?_
    refine S_q (Ent.re [4,0] rfl) rfl (Q_move rfl) rfl rfl rfl ?_
    refine S_q (Ent.re [4,0] rfl) rfl (Q_move rfl) rfl rfl rfl ?_
    refine S_q (Ent.re [4,0] rfl) rfl (Q_nilCheck rfl) rfl rfl rfl ?_
    refine S_q (Ent.re [4,0] rfl) rfl (Q_fa0 rfl) rfl rfl rfl ?_
    refine S_q (Ent.re [4,0] rfl) rfl (Q_ld 0 rfl rfl rfl rfl) rfl rfl rfl ?_
    refine S_q (Ent.re [4,0] rfl) rfl (Q_move rfl) rfl rfl rfl ?_
    refine S_q (Ent.re [4,0] rfl) rfl (Q_nilCheck rfl) rfl rfl rfl ?_
    refine S_q (Ent.re [4,0] rfl) rfl (Q_fa0 rfl) rfl rfl rfl ?_
    refine S_q (Ent.re [4,0] rfl) rfl (Q_ld 1 rfl rfl rfl rfl) rfl rfl rfl ?_
    refine S_o rfl rfl rfl rfl (O_app (τ := tNd) 6 rfl (fun w h => h.rd 2 rfl) rfl rfl rfl rfl (by simp only [List.length_map]; omega) (by decide) (fun Rx2 => ⟨_, fun _ => ⟨Ent.reN [4,0] rfl, Ent.refl _⟩, ?_⟩))
    refine JS.norm ?_
    refine S_q (Ent.re [4,0] rfl) rfl (Q_nilCheck rfl) rfl rfl rfl ?_
    refine S_q (Ent.re [4,0] rfl) rfl (Q_fa0 rfl) rfl rfl rfl ?_
    refine S_s rfl rfl rfl (O_st1 4 rfl rfl rfl rfl rfl ⟨[], free_no (by kernel_rfl), ?_⟩)
    refine JS.norm ?_
    refine S_nil ?_
    refine seqQ_normal ?_
    refine J_seq ?_
    refine J_region ?_
    refine L_q (Q_move rfl) rfl rfl rfl ?_
    refine L_q (Q_move rfl) rfl rfl rfl ?_
    refine L_q (Q_nilCheck rfl) rfl rfl rfl ?_
    refine L_q (Q_fa0 rfl) rfl rfl rfl ?_
    refine L_q (Q_ld 9 rfl rfl rfl rfl) rfl rfl rfl ?_
    refine L_q (Q_move rfl) rfl rfl rfl ?_
    refine L_q (Q_move rfl) rfl rfl rfl ?_
    refine L_q (Q_add rfl rfl (by first | exact IntWalk.i64_in _ (by omega) | exact IntWalk.u8_in _ (by omega) | exact IntWalk.u32_in _ (by omega) | exact IntWalk.u64_in _ (by omega) | rfl)) rfl rfl rfl ?_
    refine L_o rfl rfl rfl (O_call [10] [0,1,2,3,4,5,6,7,8,9,11,12] (kvdel_ok E S (K1 ++ k :: K2) A.length (A.length + 1) (by omega) hKl (by simp; omega)) rfl rfl ?_)
    rintro _ _ ⟨S2, rfl, rfl⟩
    refine JL.norm ?_
    refine L_q (Q_nilCheck rfl) rfl rfl rfl ?_
    refine L_q (Q_fa0 rfl) rfl rfl rfl ?_
    refine L_s rfl rfl (O_st1 10 rfl rfl rfl rfl rfl ?_)
    refine JL.norm ?_
    refine JL_nil ?_
    refine seqQ_normal ?_
    refine J_region ?_
    refine L_q (Q_move rfl) rfl rfl rfl ?_
    refine L_q (Q_move rfl) rfl rfl rfl ?_
    refine L_q (Q_nilCheck rfl) rfl rfl rfl ?_
    refine L_q (Q_fa0 rfl) rfl rfl rfl ?_
    refine L_q (Q_ld 10 rfl rfl rfl rfl) rfl rfl rfl ?_
    refine L_q (Q_move rfl) rfl rfl rfl ?_
    refine L_q (Q_add rfl rfl (by first | exact IntWalk.i64_in _ (by omega) | exact IntWalk.u8_in _ (by omega) | exact IntWalk.u32_in _ (by omega) | exact IntWalk.u64_in _ (by omega) | rfl)) rfl rfl rfl ?_
    refine L_q (Q_move rfl) rfl rfl rfl ?_
    refine L_q (Q_add rfl rfl (by first | exact IntWalk.i64_in _ (by omega) | exact IntWalk.u8_in _ (by omega) | exact IntWalk.u32_in _ (by omega) | exact IntWalk.u64_in _ (by omega) | rfl)) rfl rfl rfl ?_
    refine L_o rfl rfl rfl (O_call [11] [0,1,2,3,4,5,6,7,8,9,10,12] (nddel_ok E R (pL (d := d + 1) (A ++ ((qx, (kx, ccx)) :: (qy, (ky, ccy)) :: B : List (Nat × T (d + 1))))) (A.length + 1) (A.length + 2) (by omega) hP3 hPb) rfl rfl ?_)
    rintro _ _ ⟨R2, rfl, rfl⟩
    refine JL.norm ?_
    refine L_q (Q_nilCheck rfl) rfl rfl rfl ?_
    refine L_q (Q_fa0 rfl) rfl rfl rfl ?_
    refine L_s rfl rfl (O_st1 11 rfl rfl rfl rfl rfl ?_)
    refine JL.norm ?_
    refine JL_nil ?_
    have hcl : (kx ++ [k] ++ ky).length = 7 := by simp only [List.length_append, List.length_singleton]; omega
    have hjn : flat (d + 1) (kx ++ [k] ++ ky, ccx ++ ccy) = flat (d + 1) (kx, ccx) ++ k :: flat (d + 1) (ky, ccy) := by
      simp only [flat, List.map_append]
      have := ileave_join kx ky k (ccx.map (flat d)) (ccy.map (flat d)) (by simp; omega)
      rw [← this]; simp
    rw [eK, eP (kx ++ [k] ++ ky, ccx ++ ccy)]
    refine retQ_normal [] _ .nil ⟨rfl, S2, R2, (kx ++ [k] ++ ky, ccx ++ ccy), hjn, ⟨Nat.le_of_eq hcl.symm, Nat.le_of_eq hcl, by simp only [List.length_append, List.length_singleton]; omega, fun c hc => (List.mem_append.1 hc).elim (hx.2.2.2 c) (hy.2.2.2 c)⟩, hcl, rfl⟩ ?_
    rw [show (exs.map fun e => some e.1) ++ (eys.map fun e => some e.1) = (exs ++ eys).map fun e => some e.1 from List.map_append.symm]
    refine (Ent.re [9, 5, 6, 7, 8, 10, 11, 1, 0, 12] rfl).trans ?_
    refine Ent.stars_join.trans ?_
    rw [← List.map_append]
    refine (Ent.re [1, 2, 3, 0, 4, 5, 6, 7, 8] rfl).trans ?_
    refine (Ent.innerA (es := exs ++ eys) (K := kx ++ [k] ++ ky) (C := ccx ++ ccy) (by rw [List.map_append, hexs, heys])).trans ?_
    exact (Ent.mid_in (ndE (d + 1)) A (qx, ((kx ++ [k] ++ ky, ccx ++ ccy) : T (d + 1))) B).trans (Ent.re [1, 2, 3, 0, 4] rfl)
end Go.Proofs
