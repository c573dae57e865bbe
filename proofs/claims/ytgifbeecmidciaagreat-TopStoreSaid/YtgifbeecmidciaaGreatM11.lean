/- Part 11 of the texts below the row: Tree9, Tree10, Tree11, Tree12. -/
import Derived.Test.YtgifbeecmidciaaGreatM10
/- A key taken away. -/
set_option autoImplicit false
namespace Go.Proofs.Bt
open Go.SL
theorem pL_get1' {d : Nat} (A B : List (Nat × T d)) (e : Nat × T d) (h : A.length < (pL (A ++ e :: B)).length) : (pL (A ++ e :: B))[A.length] = some e.1 := mid_get _ A B e h
attribute [local irreducible] J JL QOp JOp seqQ blockQ loopQ retQ slc cel hex star pur stars Does RV Ent pAt scopeQ
attribute [local irreducible] nodeA nodeX treeA
theorem ndel_ok (E : World) (d0 p0 m0 : Nat) (t0 : T d0) (k0 : Ky) (hw0 : wf m0 d0 t0) (hm0 : 0 < d0 → 1 ≤ m0) (hu0 : Up (flat d0 t0)) (hh0 : hasL (flat d0 t0) k0 = true) : Does Tryz.prog E 163 [.pointer (some ⟨p0, 0, none⟩), str k0] [nodeA d0 p0 t0]
 fun r L => r = .tuple #[] ∧ L = [nodeX (m0 - 1) d0 p0 (delL (flat d0 t0) k0)] := by
 refine Does.of Tryz.func163 rfl Tryz.ntmps163 rfl rfl fun F => ?_
 refine J.norm ?_
 refine J_block ?_
 refine J_loop (fun i : It × Ky => wf i.1.m i.1.d i.1.t ∧ (0 < i.1.d → 1 ≤ i.1.m) ∧ Up (flat i.1.d i.1.t) ∧ hasL (flat i.1.d i.1.t) i.2 = true ∧ Ent [nodeX (i.1.m - 1) i.1.d i.1.p (delL (flat i.1.d i.1.t) i.2), i.1.G] [nodeX (m0 - 1) d0 p0 (delL (flat d0 t0) k0), F])
  (fun i => [(0, .pointer (some ⟨i.1.p, 0, none⟩)), (1, str i.2)]) (fun i => [nodeA i.1.d i.1.p i.1.t, i.1.G]) (fun i => i.1.d) (⟨d0, p0, m0, t0, F⟩, k0) ⟨hw0, hm0, hu0, hh0, Ent.refl _⟩ ⟨rfl, rfl, trivial⟩ (Ent.refl _) ?_
 rintro ⟨⟨d, p, m, t, G⟩, k⟩ ⟨hw, hm, hu, hh, hcl⟩
 dsimp only at hw hm hu hh hcl ⊢
 have hku := ks_up hw hu
 have hk7 := (wf_ks hw).2
 cases d with
 | zero =>
  refine J.leaf fun S R => ?_
  have hb : hasL (tks 0 t) k = true := hh
  have hpl := pos_le (tks 0 t) k
  have hf := find_ok E p S R (tks 0 t) k (by omega) hku
  obtain ⟨K1, K2, u, hK, hp⟩ := hit_split hku hb
  rw [hb] at hf
  have hw2 : m ≤ (tks 0 t).length ∧ (tks 0 t).length ≤ 7 := hw
  have hfl : flat 0 (K1 ++ K2 : List Kv) = delL (flat 0 t) k := by
   show K1 ++ K2 = delL (tks 0 t) k
   rw [hK] at hku ⊢
   obtain ⟨m1, m2, _, _⟩ := up_mid hku
   exact (del_hit m1 m2 u).symm
  generalize hks : tks 0 t = K at *
  generalize posK K k = i at *
  subst hK
  have hlt : i < (K1 ++ (⟨k, u⟩ : Kv) :: K2).length := by rw [← hp]; simp
  refine J_block ?_
  refine Sr ?_
  refine Lq (Q_move rfl) ?_
  refine Lq (Q_move rfl) ?_
  refine L_o rfl rfl rfl (O_call [0,1] [2,3] hf rfl rfl ?_)
  rintro _ _ ⟨rfl, rfl⟩
  refine JL.norm ?_
  refine Lq (Q_move rfl) ?_
  refine Lq (Q_extract (v := .int .i64 (i : Int)) rfl rfl) ?_
  refine Lq (Q_extract (v := .bool true) rfl rfl) ?_
  refine Lq (Q_assign rfl) ?_
  refine Lq (Q_assign rfl) ?_
  refine Ln ?_
  refine J_block ?_
  refine Sr ?_
  refine Lq (Q_move rfl) ?_
  refine L_o rfl rfl rfl (O_call [0,2] [1,3] (leaf_ok E p S R []) rfl rfl ?_)
  rintro _ _ ⟨rfl, rfl⟩
  refine JL.norm ?_
  refine Lq (Q_assign rfl) ?_
  refine Ln ?_
  refine J_condT rfl ?_
  refine J_seq ?_
  refine Sr ?_
  refine Lq (Q_move rfl) ?_
  refine Ln ?_
  refine J_condT rfl ?_
  refine J_region ?_
  refine Lq (Q_move rfl) ?_
  refine Lq (Q_move rfl) ?_
  refine Lq (Q_nilCheck rfl) ?_
  refine Lq (Q_fa0 rfl) ?_
  refine Lq (Q_ld 0 rfl rfl rfl rfl) ?_
  refine Lq (Q_move rfl) ?_
  refine Lq (Q_move rfl) ?_
  refine Lq (Q_add rfl rfl (by first | exact IntWalk.i64_in _ (by omega) | exact IntWalk.u8_in _ (by omega) | exact IntWalk.u32_in _ (by omega) | exact IntWalk.u64_in _ (by omega) | rfl)) ?_
  refine L_o rfl rfl rfl (O_call [2] [0,1,3] (kvdel_ok E S (K1 ++ (⟨k, u⟩ : Kv) :: K2) i (i + 1) (by omega) hlt (by omega)) rfl rfl ?_)
  rintro _ _ ⟨S2, rfl, rfl⟩
  refine JL.norm ?_
  refine Lq (Q_nilCheck rfl) ?_
  refine Lq (Q_fa0 rfl) ?_
  refine L_s rfl rfl (O_st1 1 rfl rfl rfl rfl rfl ?_)
  refine JL.norm ?_
  refine Ln ?_
  refine J_ret ?_
  refine blockQ_ret ?_
  refine blockQ_ret ?_
  refine loopQ_ret ?_
  refine blockQ_ret ?_
  rw [del_mid hp]
  simp only [List.length_append, List.length_cons] at hw2
  exact retQ_ret _ [nodeX (m0 - 1) d0 p0 (delL (flat d0 t0) k0)] .nil ⟨rfl, rfl⟩ ((Ent.re [1,0,2,3] rfl).trans ((Ent.leafA (t := (K1 ++ K2 : List Kv))).trans ((Ent.mkX (show wf (m - 1) 0 (K1 ++ K2 : List Kv) from ⟨by simp only [List.length_append]; omega, by simp only [List.length_append]; omega⟩) hfl).trans hcl)))
 | succ d =>
  obtain ⟨Kt, C⟩ := t
  have hm1 : 1 ≤ m := hm (Nat.succ_pos d)
  refine J.inner fun S R es hes => ?_
  dsimp only at hes ⊢
  have hku : Up Kt := hku
  obtain ⟨hwm, hw7, hwC, hwc⟩ := hw
  dsimp only at hwm hw7 hwC hwc
  have hpl := pos_le Kt k
  have hel : es.length = Kt.length + 1 := by rw [← hwC, ← hes, List.length_map]
  have hf := find_ok E p S R Kt k (by omega) hku
  have hlf := leaf_ok E p S R (pL es)
  rw [show decide (((pL es).length : Int) = 0) = false from decide_eq_false (by rw [pL_len]; omega)] at hlf
  cases hb : hasL Kt k with
  | true =>
   obtain ⟨K1, K2, u, hK, hp⟩ := hit_split hku hb
   rw [hb] at hf
   generalize posK Kt k = i at *
   subst hK
   have hlen : (K1 ++ (⟨k, u⟩ : Kv) :: K2).length = K1.length + K2.length + 1 := by simp; omega
   obtain ⟨A, x, B', rfl, hAi⟩ := split_at (l := es) (i := i) (by omega)
   subst hAi
   have hel2 : (A ++ x :: B').length = A.length + B'.length + 1 := by simp; omega
   obtain ⟨y, B, rfl⟩ := cons_of (l := B') (by omega)
   rw [List.length_cons] at hel2
   have hBl : K2.length = B.length := by omega
   subst hes
   have hw3 : ∀ c ∈ A ++ x :: y :: B, wf 3 d c.2 := fun c hc => hwc c.2 (List.mem_map_of_mem hc)
   have hwx : wf 3 d x.2 := hw3 x (by simp)
   have hwy : wf 3 d y.2 := hw3 y (by simp)
   have hx3 := (wf_ks hwx).1
   have hy3 := (wf_ks hwy).1
   have hlt : A.length < (K1 ++ (⟨k, u⟩ : Kv) :: K2).length := by omega
   have hgi := get_mid (x := (⟨k, u⟩ : Kv)) (Y := K2) hp hlt
   have hset := fun g : Kv => set_mid (x := (⟨k, u⟩ : Kv)) (y := g) (Y := K2) hp
   have hlt2 : ∀ g : Kv, A.length < (K1 ++ g :: K2).length := fun g => by simp only [List.length_append, List.length_cons] at hlt ⊢; exact hlt
   have hgi2 : ∀ g : Kv, (K1 ++ g :: K2)[A.length]'(hlt2 g) = g := fun g => get_mid hp (hlt2 g)
   have hu2 : Up (flat (d + 1) (K1 ++ ⟨k, u⟩ :: K2, A.map (·.2) ++ x.2 :: y.2 :: B.map (·.2))) := by simpa using hu
   have hAm : K1.length = (A.map (·.2)).length := by simpa using hp
   have hcl2 : Ent [nodeX (m - 1) (d + 1) p (delL (flat (d + 1) (K1 ++ ⟨k, u⟩ :: K2, A.map (·.2) ++ x.2 :: y.2 :: B.map (·.2))) k), G] [nodeX (m0 - 1) d0 p0 (delL (flat d0 t0) k0), F] := by simpa using hcl
   have hPx : A.length < (pL (A ++ x :: y :: B)).length := by rw [pL_len]; simp
   have hPy : A.length + 1 < (pL (A ++ x :: y :: B)).length := by rw [pL_len]; simp
   have gx := pL_get1 A B x y hPx
   have gy := pL_get2 A B x y hPy
   refine J_block ?_
   refine Sr ?_
   refine Lq (Q_move rfl) ?_
   refine Lq (Q_move rfl) ?_
   refine L_o rfl rfl rfl (O_call [0,1] [2,3,4] hf rfl rfl ?_)
   rintro _ _ ⟨rfl, rfl⟩
   refine JL.norm ?_
   refine Lq (Q_move rfl) ?_
   refine Lq (Q_extract (v := .int .i64 (A.length : Int)) rfl rfl) ?_
   refine Lq (Q_extract (v := .bool true) rfl rfl) ?_
   refine Lq (Q_assign rfl) ?_
   refine Lq (Q_assign rfl) ?_
   refine Ln ?_
   refine J_block ?_
   refine Sr ?_
   refine Lq (Q_move rfl) ?_
   refine L_o rfl rfl rfl (O_call [0,2] [1,3,4] hlf rfl rfl ?_)
   rintro _ _ ⟨rfl, rfl⟩
   refine JL.norm ?_
   refine Lq (Q_assign rfl) ?_
   refine Ln ?_
   refine J_condF rfl ?_
   refine Sr ?_
   refine Lq (Q_move rfl) ?_
   refine Lq ((Q_not rfl).as (v' := .bool false) rfl) ?_
   refine Lq (Q_assign rfl) ?_
   refine Ln ?_
   refine J_condF rfl ?_
   refine J_seq ?_
   refine J.ent ((Ent.re [3,0,1,2,4] rfl).trans (Ent.mid_out (ndE d) A x (y :: B))) ?_
   refine J.peek fun Sc Rc X hX => ?_
   have hclose : Ent (ndC x.1 Sc Rc :: slc tKv true Sc (tks d x.2) :: X :: stars ((A ++ y :: B).map (ndE d)) :: ndC p S R :: slc tNd true R (pL (A ++ x :: y :: B)) :: slc tKv true S (K1 ++ ⟨k, u⟩ :: K2) :: G :: []) [nodeA d x.1 x.2, stars ((A ++ y :: B).map (ndE d)), ndC p S R, slc tNd true R (pL (A ++ x :: y :: B)), slc tKv true S (K1 ++ ⟨k, u⟩ :: K2), G] := hX _
   by_cases c1 : 3 < (tks d x.2).length
   ·have he := edgeT_ok E d x.1 3 x.2 hwx (by decide)
    refine J_region ?_
    refine Lq (Q_move rfl) ?_
    refine Lq (Q_nilCheck rfl) ?_
    refine Lq (Q_fa0 rfl) ?_
    refine Lq (Q_ld 4 rfl rfl rfl rfl) ?_
    refine Lq (Q_move rfl) ?_
    refine Lq (Q_ixAt 5 A.length rfl rfl rfl rfl hPx rfl) ?_
    refine Lq (Q_ldEAt 5 A.length 0 (v := .pointer (some ⟨x.1, 0, none⟩)) rfl rfl rfl rfl hPx (by decide) (by rw [gx]; rfl)) ?_
    refine Lq (Q_nilCheck rfl) ?_
    refine Lq (Q_fa0 rfl) ?_
    refine Lq (Q_ld 0 rfl rfl rfl rfl) ?_
    refine Lq (Q_lenAt 1 rfl rfl) ?_
    refine Lq ((Q_gtr rfl rfl).as (v' := .bool true) (congrArg Value.bool (decide_eq_true (by omega)))) ?_
    refine Lq (Q_assign rfl) ?_
    refine Ln ?_
    refine J_condT rfl ?_
    refine J_seq ?_
    refine J.ent hclose ?_
    refine DH [2,3,4] [0,1,2,3,4,5,6,7,8,9,10,11,13] (.quiet 0 (.quiet 1 (.quiet 2 (.quiet 3 (.quiet 4 (.quiet 5 (.quiet 6 (.quiet 7 (.quiet 8 (.quiet 9 (.quiet 10 (.quiet 11 (.loud 12 (.quiet 13 (.loud 14 .done))))))))))))))) Tryz.mixed ?_
    refine Sq (Ent.re [2,3,4] rfl) rfl (Q_move rfl) ?_
    refine Sq (Ent.re [2,3,4] rfl) rfl (Q_nilCheck rfl) ?_
    refine Sq (Ent.re [2,3,4] rfl) rfl (Q_fa0 rfl) ?_
    refine Sq (Ent.re [2,3,4] rfl) rfl (Q_ld 0 rfl rfl rfl rfl) ?_
    refine Sq (Ent.re [2,3,4] rfl) rfl (Q_move rfl) ?_
    refine Sq (Ent.re [2,3,4] rfl) rfl (Q_move rfl) ?_
    refine Sq (Ent.re [2,3,4] rfl) rfl (Q_nilCheck rfl) ?_
    refine Sq (Ent.re [2,3,4] rfl) rfl (Q_fa0 rfl) ?_
    refine Sq (Ent.re [2,3,4] rfl) rfl (Q_ld 0 rfl rfl rfl rfl) ?_
    refine Sq (Ent.re [2,3,4] rfl) rfl (Q_move rfl) ?_
    refine Sq (Ent.re [2,3,4] rfl) rfl (Q_ixAt 1 A.length rfl rfl rfl rfl hPx rfl) ?_
    refine Sq (Ent.re [2,3,4] rfl) rfl (Q_ldEAt 1 A.length 0 (v := .pointer (some ⟨x.1, 0, none⟩)) rfl rfl rfl rfl hPx (by decide) (by rw [gx]; rfl)) ?_
    refine S_o rfl rfl rfl rfl (O_call [0] [1,2,3,4,5] he rfl rfl ?_)
    (rintro _ _ ⟨Z, g, hZ, rfl, rfl⟩; refine ⟨_, fun _ => ⟨Ent.reN [2,3,4] rfl, Ent.refl _⟩, ?_⟩)
    refine JS.norm ?_
    refine Sq (Ent.re [2,3,4] rfl) rfl (Q_ixAt 2 A.length rfl rfl rfl rfl hlt rfl) ?_
    refine S_s rfl rfl rfl (O_stE 4 A.length 0 g rfl rfl rfl rfl rfl rfl (by intro c hc; simp [Value.cells] at hc; rcases hc with rfl | rfl <;> rfl) hlt (Nat.le_refl 2) (by simp [tKv, Value.cells]) ⟨[], free_no (by kernel_rfl), ?_⟩)
    refine JS.norm ?_
    refine S_nil ?_
    refine seqQ_normal ?_
    rw [hset]
    refine DH [2,3,4] [0,1,2,3,4,5,6,7,8,9,10,11,12,13,14,15,16] (.quiet 0 (.quiet 1 (.quiet 2 (.quiet 3 (.quiet 4 (.quiet 5 (.quiet 6 (.quiet 7 (.quiet 8 (.quiet 9 (.quiet 10 (.quiet 11 (.quiet 12 (.quiet 13 (.quiet 14 (.quiet 15 (.quiet 16 .done))))))))))))))))) Tryz.mixed ?_
    refine Sq (Ent.re [2,3,4] rfl) rfl (Q_move rfl) ?_
    refine Sq (Ent.re [2,3,4] rfl) rfl (Q_nilCheck rfl) ?_
    refine Sq (Ent.re [2,3,4] rfl) rfl (Q_fa0 rfl) ?_
    refine Sq (Ent.re [2,3,4] rfl) rfl (Q_ld 0 rfl rfl rfl rfl) ?_
    refine Sq (Ent.re [2,3,4] rfl) rfl (Q_move rfl) ?_
    refine Sq (Ent.re [2,3,4] rfl) rfl (Q_ixAt 2 A.length rfl rfl rfl rfl (hlt2 g) rfl) ?_
    refine Sq (Ent.re [2,3,4] rfl) rfl (Q_pfa rfl) ?_
    refine Sq (Ent.re [2,3,4] rfl) rfl (Q_ldEAt 2 A.length 0 (v := str g.key) rfl rfl rfl rfl (hlt2 g) (by decide) (by rw [hgi2]; rfl)) ?_
    refine Sq (Ent.re [2,3,4] rfl) rfl (Q_move rfl) ?_
    refine Sq (Ent.re [2,3,4] rfl) rfl (Q_nilCheck rfl) ?_
    refine Sq (Ent.re [2,3,4] rfl) rfl (Q_fa0 rfl) ?_
    refine Sq (Ent.re [2,3,4] rfl) rfl (Q_ld 0 rfl rfl rfl rfl) ?_
    refine Sq (Ent.re [2,3,4] rfl) rfl (Q_move rfl) ?_
    refine Sq (Ent.re [2,3,4] rfl) rfl (Q_ixAt 1 A.length rfl rfl rfl rfl hPx rfl) ?_
    refine Sq (Ent.re [2,3,4] rfl) rfl (Q_ldEAt 1 A.length 0 (v := .pointer (some ⟨x.1, 0, none⟩)) rfl rfl rfl rfl hPx (by decide) (by rw [gx]; rfl)) ?_
    refine Sq (Ent.re [2,3,4] rfl) rfl (Q_assign rfl) ?_
    refine Sq (Ent.re [2,3,4] rfl) rfl (Q_assign rfl) ?_
    refine S_nil ?_
    refine blockQ_normal ?_
    refine blockQ_normal ?_
    obtain ⟨q1, q2, q3⟩ := del_left hAm hu2 hZ
    refine loopQ_normal (⟨d, x.1, 4, x.2, stars (parL p S R (K1 ++ g :: K2) (pL A ++ some x.1 :: pL (y :: B)) (A ++ y :: B) G)⟩, g.key) ⟨wf_mk hwx c1, fun _ => (by show 1 ≤ 4; decide), q1, q2, (plugX hp (by simp [hBl]) (by simp only [List.length_cons]; omega) (by simp only [List.length_cons]; omega) (fun c hc => hw3 c (by simp only [List.mem_append, List.mem_cons] at hc ⊢; exact hc.elim .inl (fun h => .inr (.inr h)))) q3).trans hcl2⟩ (Nat.lt_succ_self d) ⟨rfl, rfl, trivial⟩ Ent.foldP
   ·skip
    refine J_region ?_
    refine Lq (Q_move rfl) ?_
    refine Lq (Q_nilCheck rfl) ?_
    refine Lq (Q_fa0 rfl) ?_
    refine Lq (Q_ld 4 rfl rfl rfl rfl) ?_
    refine Lq (Q_move rfl) ?_
    refine Lq (Q_ixAt 5 A.length rfl rfl rfl rfl hPx rfl) ?_
    refine Lq (Q_ldEAt 5 A.length 0 (v := .pointer (some ⟨x.1, 0, none⟩)) rfl rfl rfl rfl hPx (by decide) (by rw [gx]; rfl)) ?_
    refine Lq (Q_nilCheck rfl) ?_
    refine Lq (Q_fa0 rfl) ?_
    refine Lq (Q_ld 0 rfl rfl rfl rfl) ?_
    refine Lq (Q_lenAt 1 rfl rfl) ?_
    refine Lq ((Q_gtr rfl rfl).as (v' := .bool false) (congrArg Value.bool (decide_eq_false (by omega)))) ?_
    refine Lq (Q_assign rfl) ?_
    refine Ln ?_
    refine J_condF rfl ?_
    refine J_seq ?_
    refine J.ent ((hclose).trans (Ent.mid_in (ndE d) A x (y :: B))) ?_
    have eS : (A ++ x :: y :: B).map (ndE d) = ((A ++ [x]) ++ y :: B).map (ndE d) := by simp
    have eA : (A ++ x :: y :: B) = (A ++ [x]) ++ y :: B := by simp
    rw [eS]
    refine J.ent (Ent.mid_out (ndE d) (A ++ [x]) y B) ?_
    refine J.peek fun Sd Rd Y hY => ?_
    have hclos2 : Ent (ndC y.1 Sd Rd :: slc tKv true Sd (tks d y.2) :: Y :: stars (((A ++ [x]) ++ B).map (ndE d)) :: ndC p S R :: slc tNd true R (pL (A ++ x :: y :: B)) :: slc tKv true S (K1 ++ ⟨k, u⟩ :: K2) :: G :: []) [nodeA d y.1 y.2, stars (((A ++ [x]) ++ B).map (ndE d)), ndC p S R, slc tNd true R (pL (A ++ x :: y :: B)), slc tKv true S (K1 ++ ⟨k, u⟩ :: K2), G] := hY _
    by_cases c2 : 3 < (tks d y.2).length
    ·have he := edgeF_ok E d y.1 3 y.2 hwy (by decide)
     refine J_region ?_
     refine Lq (Q_move rfl) ?_
     refine Lq (Q_nilCheck rfl) ?_
     refine Lq (Q_fa0 rfl) ?_
     refine Lq (Q_ld 4 rfl rfl rfl rfl) ?_
     refine Lq (Q_move rfl) ?_
     refine Lq (Q_add rfl rfl (by first | exact IntWalk.i64_in _ (by omega) | exact IntWalk.u8_in _ (by omega) | exact IntWalk.u32_in _ (by omega) | exact IntWalk.u64_in _ (by omega) | rfl)) ?_
     refine Lq (Q_ixAt 5 (A.length + 1) rfl rfl rfl rfl hPy rfl) ?_
     refine Lq (Q_ldEAt 5 (A.length + 1) 0 (v := .pointer (some ⟨y.1, 0, none⟩)) rfl rfl rfl rfl hPy (by decide) (by rw [gy]; rfl)) ?_
     refine Lq (Q_nilCheck rfl) ?_
     refine Lq (Q_fa0 rfl) ?_
     refine Lq (Q_ld 0 rfl rfl rfl rfl) ?_
     refine Lq (Q_lenAt 1 rfl rfl) ?_
     refine Lq ((Q_gtr rfl rfl).as (v' := .bool true) (congrArg Value.bool (decide_eq_true (by omega)))) ?_
     refine Lq (Q_assign rfl) ?_
     refine Ln ?_
     refine J_condT rfl ?_
     refine J_seq ?_
     refine J.ent hclos2 ?_
     refine DH [2,3,4] [0,1,2,3,4,5,6,7,8,9,10,11,12,14] (.quiet 0 (.quiet 1 (.quiet 2 (.quiet 3 (.quiet 4 (.quiet 5 (.quiet 6 (.quiet 7 (.quiet 8 (.quiet 9 (.quiet 10 (.quiet 11 (.quiet 12 (.loud 13 (.quiet 14 (.loud 15 .done)))))))))))))))) Tryz.mixed ?_
     refine Sq (Ent.re [2,3,4] rfl) rfl (Q_move rfl) ?_
     refine Sq (Ent.re [2,3,4] rfl) rfl (Q_nilCheck rfl) ?_
     refine Sq (Ent.re [2,3,4] rfl) rfl (Q_fa0 rfl) ?_
     refine Sq (Ent.re [2,3,4] rfl) rfl (Q_ld 0 rfl rfl rfl rfl) ?_
     refine Sq (Ent.re [2,3,4] rfl) rfl (Q_move rfl) ?_
     refine Sq (Ent.re [2,3,4] rfl) rfl (Q_move rfl) ?_
     refine Sq (Ent.re [2,3,4] rfl) rfl (Q_nilCheck rfl) ?_
     refine Sq (Ent.re [2,3,4] rfl) rfl (Q_fa0 rfl) ?_
     refine Sq (Ent.re [2,3,4] rfl) rfl (Q_ld 0 rfl rfl rfl rfl) ?_
     refine Sq (Ent.re [2,3,4] rfl) rfl (Q_move rfl) ?_
     refine Sq (Ent.re [2,3,4] rfl) rfl (Q_add rfl rfl (by first | exact IntWalk.i64_in _ (by omega) | exact IntWalk.u8_in _ (by omega) | exact IntWalk.u32_in _ (by omega) | exact IntWalk.u64_in _ (by omega) | rfl)) ?_
     refine Sq (Ent.re [2,3,4] rfl) rfl (Q_ixAt 1 (A.length + 1) rfl rfl rfl rfl hPy rfl) ?_
     refine Sq (Ent.re [2,3,4] rfl) rfl (Q_ldEAt 1 (A.length + 1) 0 (v := .pointer (some ⟨y.1, 0, none⟩)) rfl rfl rfl rfl hPy (by decide) (by rw [gy]; rfl)) ?_
     refine S_o rfl rfl rfl rfl (O_call [0] [1,2,3,4,5] he rfl rfl ?_)
     (rintro _ _ ⟨Z, g, hZ, rfl, rfl⟩; refine ⟨_, fun _ => ⟨Ent.reN [2,3,4] rfl, Ent.refl _⟩, ?_⟩)
     refine JS.norm ?_
     refine Sq (Ent.re [2,3,4] rfl) rfl (Q_ixAt 2 A.length rfl rfl rfl rfl hlt rfl) ?_
     refine S_s rfl rfl rfl (O_stE 4 A.length 0 g rfl rfl rfl rfl rfl rfl (by intro c hc; simp [Value.cells] at hc; rcases hc with rfl | rfl <;> rfl) hlt (Nat.le_refl 2) (by simp [tKv, Value.cells]) ⟨[], free_no (by kernel_rfl), ?_⟩)
     refine JS.norm ?_
     refine S_nil ?_
     refine seqQ_normal ?_
     rw [hset]
     refine DH [2,3,4] [0,1,2,3,4,5,6,7,8,9,10,11,12,13,14,15,16,17] (.quiet 0 (.quiet 1 (.quiet 2 (.quiet 3 (.quiet 4 (.quiet 5 (.quiet 6 (.quiet 7 (.quiet 8 (.quiet 9 (.quiet 10 (.quiet 11 (.quiet 12 (.quiet 13 (.quiet 14 (.quiet 15 (.quiet 16 (.quiet 17 .done)))))))))))))))))) Tryz.mixed ?_
     refine Sq (Ent.re [2,3,4] rfl) rfl (Q_move rfl) ?_
     refine Sq (Ent.re [2,3,4] rfl) rfl (Q_nilCheck rfl) ?_
     refine Sq (Ent.re [2,3,4] rfl) rfl (Q_fa0 rfl) ?_
     refine Sq (Ent.re [2,3,4] rfl) rfl (Q_ld 0 rfl rfl rfl rfl) ?_
     refine Sq (Ent.re [2,3,4] rfl) rfl (Q_move rfl) ?_
     refine Sq (Ent.re [2,3,4] rfl) rfl (Q_ixAt 2 A.length rfl rfl rfl rfl (hlt2 g) rfl) ?_
     refine Sq (Ent.re [2,3,4] rfl) rfl (Q_pfa rfl) ?_
     refine Sq (Ent.re [2,3,4] rfl) rfl (Q_ldEAt 2 A.length 0 (v := str g.key) rfl rfl rfl rfl (hlt2 g) (by decide) (by rw [hgi2]; rfl)) ?_
     refine Sq (Ent.re [2,3,4] rfl) rfl (Q_move rfl) ?_
     refine Sq (Ent.re [2,3,4] rfl) rfl (Q_nilCheck rfl) ?_
     refine Sq (Ent.re [2,3,4] rfl) rfl (Q_fa0 rfl) ?_
     refine Sq (Ent.re [2,3,4] rfl) rfl (Q_ld 0 rfl rfl rfl rfl) ?_
     refine Sq (Ent.re [2,3,4] rfl) rfl (Q_move rfl) ?_
     refine Sq (Ent.re [2,3,4] rfl) rfl (Q_add rfl rfl (by first | exact IntWalk.i64_in _ (by omega) | exact IntWalk.u8_in _ (by omega) | exact IntWalk.u32_in _ (by omega) | exact IntWalk.u64_in _ (by omega) | rfl)) ?_
     refine Sq (Ent.re [2,3,4] rfl) rfl (Q_ixAt 1 (A.length + 1) rfl rfl rfl rfl hPy rfl) ?_
     refine Sq (Ent.re [2,3,4] rfl) rfl (Q_ldEAt 1 (A.length + 1) 0 (v := .pointer (some ⟨y.1, 0, none⟩)) rfl rfl rfl rfl hPy (by decide) (by rw [gy]; rfl)) ?_
     refine Sq (Ent.re [2,3,4] rfl) rfl (Q_assign rfl) ?_
     refine Sq (Ent.re [2,3,4] rfl) rfl (Q_assign rfl) ?_
     refine S_nil ?_
     refine blockQ_normal ?_
     refine blockQ_normal ?_
     obtain ⟨q1, q2, q3⟩ := del_right hAm hu2 hZ
     rw [show K1 ++ g :: K2 = (K1 ++ [g]) ++ K2 by simp, eA]
     refine loopQ_normal (⟨d, y.1, 4, y.2, stars (parL p S R ((K1 ++ [g]) ++ K2) (pL (A ++ [x]) ++ some y.1 :: pL B) ((A ++ [x]) ++ B) G)⟩, g.key) ⟨wf_mk hwy c2, fun _ => (by show 1 ≤ 4; decide), q1, q2, (plugX (by simp [hp]) hBl (by simp only [List.length_append, List.length_singleton]; omega) (by simp only [List.length_append, List.length_singleton]; omega) (fun c hc => hw3 c (by rw [eA]; simp only [List.mem_append, List.mem_cons] at hc ⊢; exact hc.elim .inl (fun h => .inr (.inr h)))) (by rw [q3]; simp)).trans hcl2⟩ (Nat.lt_succ_self d) ⟨rfl, rfl, trivial⟩ Ent.foldP
    ·skip
     refine J_region ?_
     refine Lq (Q_move rfl) ?_
     refine Lq (Q_nilCheck rfl) ?_
     refine Lq (Q_fa0 rfl) ?_
     refine Lq (Q_ld 4 rfl rfl rfl rfl) ?_
     refine Lq (Q_move rfl) ?_
     refine Lq (Q_add rfl rfl (by first | exact IntWalk.i64_in _ (by omega) | exact IntWalk.u8_in _ (by omega) | exact IntWalk.u32_in _ (by omega) | exact IntWalk.u64_in _ (by omega) | rfl)) ?_
     refine Lq (Q_ixAt 5 (A.length + 1) rfl rfl rfl rfl hPy rfl) ?_
     refine Lq (Q_ldEAt 5 (A.length + 1) 0 (v := .pointer (some ⟨y.1, 0, none⟩)) rfl rfl rfl rfl hPy (by decide) (by rw [gy]; rfl)) ?_
     refine Lq (Q_nilCheck rfl) ?_
     refine Lq (Q_fa0 rfl) ?_
     refine Lq (Q_ld 0 rfl rfl rfl rfl) ?_
     refine Lq (Q_lenAt 1 rfl rfl) ?_
     refine Lq ((Q_gtr rfl rfl).as (v' := .bool false) (congrArg Value.bool (decide_eq_false (by omega)))) ?_
     refine Lq (Q_assign rfl) ?_
     refine Ln ?_
     refine J_condF rfl ?_
     refine J_seq ?_
     refine J.ent (hclos2.trans (Ent.mid_in (ndE d) (A ++ [x]) y B)) ?_
     rw [← eS]
     refine J.ent (Ent.re [1,3,2,0,4] rfl) ?_
     refine J_region ?_
     refine Lq (Q_move rfl) ?_
     refine Lq (Q_move rfl) ?_
     refine L_o rfl rfl rfl (O_call [0,1,2,3] [4] (merge_ok E d p S R K1 K2 ⟨k, u⟩ A B x y hp hwx hwy (by omega) (by omega) (by omega) (by omega)) rfl rfl ?_)
     rintro _ _ ⟨rfl, S', R', cm, f1, w1, hc7, rfl⟩
     refine JL.norm ?_
     refine Ln ?_
     have w4 : wf 4 d cm := wf_mk w1 (by omega)
     have hPm : A.length < (pL (A ++ (x.1, cm) :: B)).length := by rw [pL_len]; simp
     have gm := pL_get1' A B (x.1, cm) hPm
     refine J_region ?_
     refine Lq (Q_move rfl) ?_
     refine Lq (Q_nilCheck rfl) ?_
     refine Lq (Q_fa0 rfl) ?_
     refine Lq (Q_ld 0 rfl rfl rfl rfl) ?_
     refine Lq (Q_move rfl) ?_
     refine Lq (Q_ixAt 2 A.length rfl rfl rfl rfl hPm rfl) ?_
     refine Lq (Q_ldEAt 2 A.length 0 (v := .pointer (some ⟨x.1, 0, none⟩)) rfl rfl rfl rfl hPm (by decide) (by rw [gm]; rfl)) ?_
     refine Lq (Q_assign rfl) ?_
     refine JL_nil ?_
     refine blockQ_normal ?_
     refine blockQ_normal ?_
     obtain ⟨q1, q2, q3⟩ := del_mid2 hAm hu2 f1
     refine loopQ_normal (⟨d, x.1, 4, cm, stars (parL p S' R' (K1 ++ K2) (pL A ++ some x.1 :: pL B) (A ++ B) G)⟩, k) ⟨w4, fun _ => (by show 1 ≤ 4; decide), q1, q2, (plugX hp hBl (by omega) (by omega) (fun c hc => hw3 c (by simp only [List.mem_append, List.mem_cons] at hc ⊢; exact hc.elim .inl (fun h => .inr (.inr (.inr h))))) q3).trans hcl2⟩ (Nat.lt_succ_self d) ⟨rfl, rfl, trivial⟩ (Ent.downN (e := (x.1, cm)))
  | false =>
   obtain ⟨K1, K2, hK, hp, hk1, hk2⟩ := miss_split hku hb
   rw [hb] at hf
   generalize posK Kt k = i at *
   subst hK
   have hlen : (K1 ++ K2).length = K1.length + K2.length := by simp
   obtain ⟨A, e, B, rfl, hAi⟩ := split_at (l := es) (i := i) (by omega)
   subst hAi
   have hel2 : (A ++ e :: B).length = A.length + B.length + 1 := by simp; omega
   have hBl : K2.length = B.length := by omega
   subst hes
   have hw3 : ∀ c ∈ A ++ e :: B, wf 3 d c.2 := fun c hc => hwc c.2 (List.mem_map_of_mem hc)
   have hu2 : Up (flat (d + 1) (K1 ++ K2, A.map (·.2) ++ e.2 :: B.map (·.2))) := by simpa using hu
   have hh2 : hasL (flat (d + 1) (K1 ++ K2, A.map (·.2) ++ e.2 :: B.map (·.2))) k = true := by simpa using hh
   have hcl2 : Ent [nodeX (m - 1) (d + 1) p (delL (flat (d + 1) (K1 ++ K2, A.map (·.2) ++ e.2 :: B.map (·.2))) k), G] [nodeX (m0 - 1) d0 p0 (delL (flat d0 t0) k0), F] := by simpa using hcl
   refine J_block ?_
   refine Sr ?_
   refine Lq (Q_move rfl) ?_
   refine Lq (Q_move rfl) ?_
   refine L_o rfl rfl rfl (O_call [0,1] [2,3,4] hf rfl rfl ?_)
   rintro _ _ ⟨rfl, rfl⟩
   refine JL.norm ?_
   refine Lq (Q_move rfl) ?_
   refine Lq (Q_extract (v := .int .i64 (A.length : Int)) rfl rfl) ?_
   refine Lq (Q_extract (v := .bool false) rfl rfl) ?_
   refine Lq (Q_assign rfl) ?_
   refine Lq (Q_assign rfl) ?_
   refine Ln ?_
   refine J_block ?_
   refine Sr ?_
   refine Lq (Q_move rfl) ?_
   refine L_o rfl rfl rfl (O_call [0,2] [1,3,4] hlf rfl rfl ?_)
   rintro _ _ ⟨rfl, rfl⟩
   refine JL.norm ?_
   refine Lq (Q_assign rfl) ?_
   refine Ln ?_
   refine J_condF rfl ?_
   refine Sr ?_
   refine Lq (Q_move rfl) ?_
   refine Lq ((Q_not rfl).as (v' := .bool true) rfl) ?_
   refine Lq (Q_assign rfl) ?_
   refine Ln ?_
   refine J_condT rfl ?_
   refine J_region ?_
   refine Lq (Q_move rfl) ?_
   refine Lq (Q_move rfl) ?_
   refine L_o rfl rfl rfl (O_call [0,2,1,3] [4] (fill_ok E d p S R K1 K2 A B e k hp hBl hw3 (by omega) (by omega) hu2 hk1 hk2) rfl rfl ?_)
   rintro _ _ ⟨S', R', K1', K2', A', e', B', hF, rfl, rfl⟩
   refine JL.norm ?_
   refine Lq (Q_assign rfl) ?_
   refine JL_nil ?_
   refine blockQ_normal ?_
   refine blockQ_normal ?_
   rw [← hF.fl] at hu2 hh2 hcl2
   obtain ⟨n1, n2, n3, n4, n5, n6, _⟩ := inner_miss (by simpa using hF.hA) hu2 hF.b hF.a
   have hlo := hF.low
   have hto := hF.top
   refine loopQ_normal (⟨d, e'.1, 4, e'.2, stars (parL p S' R' (K1' ++ K2') (pL A' ++ some e'.1 :: pL B') (A' ++ B') G)⟩, k) ⟨hF.he, fun _ => (by show 1 ≤ 4; decide), n1, by rw [← n6]; exact hh2, (plugX hF.hA hF.hB (by omega) (by omega) hF.hw n5).trans hcl2⟩ (Nat.lt_succ_self d) ⟨rfl, rfl, trivial⟩ Ent.downN
end Go.Proofs.Bt
/- A tree: a key taken away, its depth, a tree like it. -/
set_option autoImplicit false
namespace Go.Proofs.Bt
open Go.SL
theorem has_pos {l : List Kv} {k : Ky} (h : hasL l k = true) : 0 < l.length := by
 cases l with
 | nil => simp [hasL] at h
 | cons a l => exact Nat.succ_pos _
theorem flat_one {d : Nat} {e : T d} : flat (d + 1) ([], [e]) = flat d e := by simp [flat, ileave]
attribute [local irreducible] J JL QOp JOp seqQ blockQ loopQ retQ slc cel hex star pur stars Does RV Ent pAt scopeQ
attribute [local irreducible] nodeA nodeX treeA
theorem tdel_ok (E : World) (p : Nat) (l : List Kv) (k : Ky) (hl : l.length ≤ 1000000) : Does Tryz.prog E 162 [.pointer (some ⟨p, 0, none⟩), str k] [treeA p l] fun r L => r = .bool (hasL l k) ∧ L = [treeA p (delL l k)] := by
 refine Does.of Tryz.func162 rfl Tryz.ntmps162 rfl rfl fun F => ?_
 refine J.norm ?_
 refine Sr ?_
 refine Lq (Q_assign rfl) ?_
 refine Ln ?_
 refine J_seq ?_
 refine Sr ?_
 refine Lq (Q_move rfl) ?_
 refine Lq (Q_move rfl) ?_
 refine L_o rfl rfl rfl (O_call [0] [1] (tget_ok E p l k) rfl rfl ?_)
 rintro _ _ ⟨rfl, rfl⟩
 refine JL.norm ?_
 refine Lq (Q_move rfl) ?_
 refine Lq (Q_extract (v := str (getL l k)) rfl rfl) ?_
 refine Lq (Q_extract (v := .bool (hasL l k)) rfl rfl) ?_
 refine Lq (Q_assign rfl) ?_
 refine Lq (Q_assign rfl) ?_
 refine Ln ?_
 refine J_seq ?_
 refine J.tree fun r d t hu hw hf => ?_
 cases hb : hasL l k with
 | false =>
  refine J_region ?_
  refine Lq (Q_move rfl) ?_
  refine Lq ((Q_not rfl).as (v' := .bool true) rfl) ?_
  refine Ln ?_
  refine J_condT rfl ?_
  refine Sr ?_
  refine Lq (Q_assign rfl) ?_
  refine Ln ?_
  refine J_ret ?_
  refine seqQ_ret ?_
  refine retQ_ret _ [treeA p (delL l k)] (.cons (RV_tmp rfl) .nil) ⟨rfl, rfl⟩ ?_
  rw [del_not hu hb]
  exact (Ent.mkX hw hf).trans ((Ent.re [1,0,2] rfl).trans (Ent.tree hu))
 | true =>
  have hdl := del_len hu k
  rw [if_pos hb] at hdl
  have hpos := has_pos hb
  have hnd := ndel_ok E d r (min d 1) t k hw (fun h => by omega) (by rw [hf]; exact hu) (by rw [hf]; exact hb)
  rw [hf] at hnd
  refine J_region ?_
  refine Lq (Q_move rfl) ?_
  refine Lq ((Q_not rfl).as (v' := .bool false) rfl) ?_
  refine Ln ?_
  refine J_condF rfl ?_
  refine J_skip ?_
  refine seqQ_normal ?_
  refine Sr ?_
  refine Lq (Q_move rfl) ?_
  refine Lq (Q_nilCheck rfl) ?_
  refine Lq (Q_fa0 rfl) ?_
  refine Lq (Q_ld 1 rfl rfl rfl rfl) ?_
  refine Lq (Q_move rfl) ?_
  refine L_o rfl rfl rfl (O_call [0] [1,2] hnd rfl rfl ?_)
  rintro _ _ ⟨rfl, rfl⟩
  refine JL.norm ?_
  refine Ln ?_
  refine J_seq ?_
  refine J_seq ?_
  refine J.outX fun t2 hw2 hf2 => ?_
  refine J.cut0 (fun e ρ' L' => e = .normal ∧ ∃ (r3 d3 : Nat) (t3 : T d3), wf (min d3 1) d3 t3 ∧ flat d3 t3 = delL l k ∧ envSub [(0, .pointer (some ⟨p, 0, none⟩))] ρ' ∧ Ent L' [nodeA d3 r3 t3, trC p r3 l.length, F]) ?_ ?_
  ·cases d with
   | zero =>
    refine J.leaf fun S R => ?_
    by_cases h0 : (tks 0 t2).length = 0
    ·skip
     refine J_region ?_
     refine Lq (Q_move rfl) ?_
     refine Lq (Q_nilCheck rfl) ?_
     refine Lq (Q_fa0 rfl) ?_
     refine Lq (Q_ld 3 rfl rfl rfl rfl) ?_
     refine Lq (Q_nilCheck rfl) ?_
     refine Lq (Q_fa0 rfl) ?_
     refine Lq (Q_ld 0 rfl rfl rfl rfl) ?_
     refine Lq (Q_lenAt 1 rfl rfl) ?_
     refine Lq ((Q_eql rfl rfl).as (v' := .bool true) (congrArg Value.bool (decide_eq_true (by omega)))) ?_
     refine Lq (Q_move rfl) ?_
     refine Lq (Q_move rfl) ?_
     refine Lq (Q_nilCheck rfl) ?_
     refine Lq (Q_fa0 rfl) ?_
     refine Lq (Q_ld 3 rfl rfl rfl rfl) ?_
     refine L_o rfl rfl rfl (O_call [0,2] [1,3,4] (leaf_ok E r S R []) rfl rfl ?_)
     rintro _ _ ⟨rfl, rfl⟩
     refine JL.norm ?_
     refine Lq ((Q_not rfl).as (v' := .bool false) rfl) ?_
     refine Lq (Q_pickT rfl rfl) ?_
     refine Ln ?_
     refine J_condF rfl ?_
     refine J_skip ?_
     exact ⟨rfl, r, 0, t2, wf_mk hw2 (Nat.zero_le _), hf2, ⟨rfl, trivial⟩, (Ent.re [0,2,1,3,4] rfl).trans Ent.leafA⟩
    ·skip
     refine J_region ?_
     refine Lq (Q_move rfl) ?_
     refine Lq (Q_nilCheck rfl) ?_
     refine Lq (Q_fa0 rfl) ?_
     refine Lq (Q_ld 3 rfl rfl rfl rfl) ?_
     refine Lq (Q_nilCheck rfl) ?_
     refine Lq (Q_fa0 rfl) ?_
     refine Lq (Q_ld 0 rfl rfl rfl rfl) ?_
     refine Lq (Q_lenAt 1 rfl rfl) ?_
     refine Lq ((Q_eql rfl rfl).as (v' := .bool false) (congrArg Value.bool (decide_eq_false (by omega)))) ?_
     refine Lq (Q_move rfl) ?_
     refine L_n rfl rfl rfl ?_
     refine L_n rfl rfl rfl ?_
     refine L_n rfl rfl rfl ?_
     refine L_n rfl rfl rfl ?_
     refine L_n rfl rfl rfl ?_
     refine L_n rfl rfl rfl ?_
     refine Lq (Q_pickF rfl rfl) ?_
     refine Ln ?_
     refine J_condF rfl ?_
     refine J_skip ?_
     exact ⟨rfl, r, 0, t2, wf_mk hw2 (Nat.zero_le _), hf2, ⟨rfl, trivial⟩, Ent.leafA⟩
   | succ d =>
    obtain ⟨K, C⟩ := t2
    refine J.inner fun S R es hes => ?_
    obtain ⟨_, h7, hC, hwc⟩ := hw2
    dsimp only at hes h7 hC hwc ⊢
    subst hes
    rw [List.length_map] at hC
    have hm1 : min (d + 1) 1 = 1 := Nat.min_eq_right (by omega)
    by_cases h0 : K.length = 0
    ·have hlf := leaf_ok E r S R (pL es)
     rw [show decide (((pL es).length : Int) = 0) = false from decide_eq_false (by rw [pL_len]; omega)] at hlf
     obtain ⟨e, B, rfl⟩ := cons_of (l := es) (by omega)
     have hB : B = [] := List.eq_nil_of_length_eq_zero (by rw [List.length_cons] at hC; omega)
     subst hB
     have hK : K = [] := List.eq_nil_of_length_eq_zero h0
     subst hK
     have hPl : 0 < (pL (e :: [])).length := Nat.succ_pos _
     refine J_region ?_
     refine Lq (Q_move rfl) ?_
     refine Lq (Q_nilCheck rfl) ?_
     refine Lq (Q_fa0 rfl) ?_
     refine Lq (Q_ld 4 rfl rfl rfl rfl) ?_
     refine Lq (Q_nilCheck rfl) ?_
     refine Lq (Q_fa0 rfl) ?_
     refine Lq (Q_ld 0 rfl rfl rfl rfl) ?_
     refine Lq (Q_lenAt 1 rfl rfl) ?_
     refine Lq ((Q_eql rfl rfl).as (v' := .bool true) rfl) ?_
     refine Lq (Q_move rfl) ?_
     refine Lq (Q_move rfl) ?_
     refine Lq (Q_nilCheck rfl) ?_
     refine Lq (Q_fa0 rfl) ?_
     refine Lq (Q_ld 4 rfl rfl rfl rfl) ?_
     refine L_o rfl rfl rfl (O_call [0,2] [1,3,4,5] hlf rfl rfl ?_)
     rintro _ _ ⟨rfl, rfl⟩
     refine JL.norm ?_
     refine Lq ((Q_not rfl).as (v' := .bool true) rfl) ?_
     refine Lq (Q_pickT rfl rfl) ?_
     refine Ln ?_
     refine J_condT rfl ?_
     refine J_region ?_
     refine Lq (Q_move rfl) ?_
     refine Lq (Q_move rfl) ?_
     refine Lq (Q_nilCheck rfl) ?_
     refine Lq (Q_fa0 rfl) ?_
     refine Lq (Q_ld 4 rfl rfl rfl rfl) ?_
     refine Lq (Q_nilCheck rfl) ?_
     refine Lq (Q_fa0 rfl) ?_
     refine Lq (Q_ld 0 rfl rfl rfl rfl) ?_
     refine Lq (Q_ixAt 1 0 rfl rfl rfl rfl hPl rfl) ?_
     refine Lq (Q_ldEAt 1 0 0 (v := .pointer (some ⟨e.1, 0, none⟩)) rfl rfl rfl rfl hPl (by decide) rfl) ?_
     refine Lq (Q_nilCheck rfl) ?_
     refine Lq (Q_fa0 rfl) ?_
     refine L_s rfl rfl (O_st1 4 rfl rfl rfl rfl rfl ?_)
     refine JL.norm ?_
     refine JL_nil ?_
     refine ⟨rfl, e.1, d, e.2, wf_mk (hwc e.2 (by simp)) ?_, ?_, ⟨rfl, trivial⟩, ?_⟩
     ·have := (wf_ks (hwc e.2 (by simp))).1; omega
     ·rw [← hf2]; exact flat_one.symm
     ·exact (Ent.re [3,4,5] rfl).trans ((Ent.mid_out (ndE d) [] e []).trans (Ent.re [0,2,3] rfl))
    ·skip
     refine J_region ?_
     refine Lq (Q_move rfl) ?_
     refine Lq (Q_nilCheck rfl) ?_
     refine Lq (Q_fa0 rfl) ?_
     refine Lq (Q_ld 4 rfl rfl rfl rfl) ?_
     refine Lq (Q_nilCheck rfl) ?_
     refine Lq (Q_fa0 rfl) ?_
     refine Lq (Q_ld 0 rfl rfl rfl rfl) ?_
     refine Lq (Q_lenAt 1 rfl rfl) ?_
     refine Lq ((Q_eql rfl rfl).as (v' := .bool false) (congrArg Value.bool (decide_eq_false (by omega)))) ?_
     refine Lq (Q_move rfl) ?_
     refine L_n rfl rfl rfl ?_
     refine L_n rfl rfl rfl ?_
     refine L_n rfl rfl rfl ?_
     refine L_n rfl rfl rfl ?_
     refine L_n rfl rfl rfl ?_
     refine L_n rfl rfl rfl ?_
     refine Lq (Q_pickF rfl rfl) ?_
     refine Ln ?_
     refine J_condF rfl ?_
     refine J_skip ?_
     exact ⟨rfl, r, d + 1, (K, es.map (·.2)), ⟨by rw [hm1]; show 1 ≤ K.length; omega, h7, by simpa using hC, hwc⟩, hf2, ⟨rfl, trivial⟩, Ent.innerA rfl⟩
  rintro _ ρ' L' ⟨rfl, r3, d3, t3, hw3, hf3, hsub, hent⟩
  refine seqQ_normal ?_
  refine J.sub hsub ?_
  refine J.ent hent ?_
  refine Sr ?_
  refine Lq (Q_move rfl) ?_
  refine Lq (Q_nilCheck rfl) ?_
  refine Lq (Q_fa0 rfl) ?_
  refine Lq (Q_ld 1 rfl rfl rfl rfl) ?_
  refine Lq (Q_sub rfl rfl (by first | exact IntWalk.i64_in _ (by omega) | exact IntWalk.u8_in _ (by omega) | exact IntWalk.u32_in _ (by omega) | exact IntWalk.u64_in _ (by omega) | rfl)) ?_
  refine Lq (Q_nilCheck rfl) ?_
  refine Lq (Q_fa0 rfl) ?_
  refine L_s rfl rfl (O_st1 1 rfl rfl rfl rfl rfl ?_)
  refine JL.norm ?_
  refine Ln ?_
  refine Sr ?_
  refine Lq (Q_assign rfl) ?_
  refine Ln ?_
  refine J_ret ?_
  exact retQ_ret _ [treeA p (delL l k)] (.cons (RV_tmp rfl) .nil) ⟨rfl, rfl⟩ ((Ent.mkX hw3 hf3).trans ((Ent.re [1,0,2] rfl).trans (Ent.treeN (up_del hu k) (by rw [hdl]; omega))))
end Go.Proofs.Bt
/- A tree like another. -/
set_option autoImplicit false
namespace Go.Proofs.Bt
open Go.SL
attribute [local irreducible] J JL QOp JOp seqQ blockQ loopQ retQ slc cel hex star pur stars Does RV Ent pAt scopeQ
attribute [local irreducible] nodeA nodeX treeA
end Go.Proofs.Bt
/- The pairs gone over, from a key on. -/
set_option autoImplicit false
namespace Go.Proofs.Bt
open Go.SL
def rngStep (to : Ky) (many : Int) (acc : List Kv) (x : Kv) : List Kv × Bool := if (!decide (to = []) && !kl x.key to) = true then (acc, false) else (acc ++ [x], decide (((acc ++ [x]).length : Int) < many))
def runR (to : Ky) (many : Int) : List Kv → List Kv → List Kv × Bool
 | acc, [] => (acc, true)
 | acc, x :: xs => if (rngStep to many acc x).2 = true then runR to many (rngStep to many acc x).1 xs else ((rngStep to many acc x).1, false)
def flF (from' : Ky) (l : List Kv) : List Kv := l.filter fun x => !kl x.key from'
theorem rngStep_len (to : Ky) (many : Int) (acc : List Kv) (x : Kv) : (rngStep to many acc x).1.length ≤ acc.length + 1 := by
 unfold rngStep
 by_cases h : (!decide (to = []) && !kl x.key to) = true
 ·rw [if_pos h]; simp
 ·rw [if_neg h]; simp
theorem runR_ct {to : Ky} {many : Int} {x : Kv} {ys acc : List Kv} (h : (rngStep to many acc x).2 = true) : runR to many acc (x :: ys) = runR to many (rngStep to many acc x).1 ys := by
 rw [runR, if_pos h]
theorem runR_cf {to : Ky} {many : Int} {x : Kv} {ys acc : List Kv} (h : (rngStep to many acc x).2 = false) : runR to many acc (x :: ys) = ((rngStep to many acc x).1, false) := by
 rw [runR, if_neg (by rw [h]; simp)]
theorem runR_t {to : Ky} {many : Int} {ys : List Kv} : ∀ {xs acc : List Kv}, (runR to many acc xs).2 = true → runR to many acc (xs ++ ys) = runR to many (runR to many acc xs).1 ys
 | [], acc, _ => rfl
 | x :: xs, acc, h => by
  rw [List.cons_append]
  cases hb : (rngStep to many acc x).2 with
  | true => rw [runR_ct hb] at h; rw [runR_ct hb, runR_ct hb]; exact runR_t h
  | false => rw [runR_cf hb] at h; exact absurd h (by simp)
theorem runR_f {to : Ky} {many : Int} {ys : List Kv} : ∀ {xs acc : List Kv}, (runR to many acc xs).2 = false → runR to many acc (xs ++ ys) = ((runR to many acc xs).1, false)
 | [], acc, h => by simp [runR] at h
 | x :: xs, acc, h => by
  rw [List.cons_append]
  cases hb : (rngStep to many acc x).2 with
  | true => rw [runR_ct hb] at h; rw [runR_ct hb, runR_ct hb]; exact runR_f h
  | false => rw [runR_cf hb, runR_cf hb]
theorem runR_len (to : Ky) (many : Int) : ∀ (xs acc : List Kv), (runR to many acc xs).1.length ≤ acc.length + xs.length
 | [], acc => by simp [runR]
 | x :: xs, acc => by
  have h1 := rngStep_len to many acc x
  cases hb : (rngStep to many acc x).2 with
  | true =>
   rw [runR_ct hb]
   have := runR_len to many xs (rngStep to many acc x).1
   simp only [List.length_cons]; omega
  | false => rw [runR_cf hb]; simp only [List.length_cons]; omega
theorem flF_app (f : Ky) (a b : List Kv) : flF f (a ++ b) = flF f a ++ flF f b := List.filter_append ..
theorem flF_bel {f : Ky} {l : List Kv} (h : Bel l f) : flF f l = [] := List.filter_eq_nil_iff.2 fun x hx => by rw [h x hx]; simp
theorem flF_cons {f : Ky} {x : Kv} {l : List Kv} (h : kl x.key f = false) : flF f (x :: l) = x :: flF f l := by
 unfold flF; rw [List.filter_cons, h]; rfl
theorem flF_drop {f : Ky} {l : List Kv} (hu : Up l) : flF f l = l.drop (posK l f) := by
 have h1 : Bel (l.take (posK l f)) f := by rw [lo_take hu f]; exact lo_Bel l f
 have h2 : flF f (l.drop (posK l f)) = l.drop (posK l f) := List.filter_eq_self.2 fun x hx => by
  obtain ⟨j, hj, rfl⟩ := List.getElem_of_mem hx
  simp only [List.length_drop] at hj
  rw [List.getElem_drop, pos_ge hu (by omega) (by omega)]; rfl
 have h3 := flF_app f (l.take (posK l f)) (l.drop (posK l f))
 rw [List.take_append_drop, flF_bel h1, List.nil_append, h2] at h3
 exact h3
/-- What stands from a node's child on. -/
def restF (d : Nat) (K : List Kv) (C : List (T d)) (i : Nat) : List Kv := ileave (K.drop i) ((C.drop i).map (flat d))
theorem rest_mid {d : Nat} {K : List Kv} {A B : List (T d)} {c : T d} (hi : A.length < K.length) (hC : (A ++ c :: B).length = K.length + 1) : restF d K (A ++ c :: B) A.length = flat d c ++ K[A.length] :: restF d K (A ++ c :: B) (A.length + 1) := by
 have hB : (A ++ c :: B).drop (A.length + 1) = B := by
  have := List.drop_left (l₁ := A ++ [c]) (l₂ := B)
  simp only [List.length_append, List.length_singleton, List.append_assoc, List.singleton_append] at this
  exact this
 unfold restF
 rw [List.drop_left, List.drop_eq_getElem_cons hi, hB, List.map_cons]
 rfl
theorem rest_last {d : Nat} {K : List Kv} {A : List (T d)} {c : T d} (hi : A.length = K.length) : restF d K (A ++ [c]) A.length = flat d c ∧ restF d K (A ++ [c]) (A.length + 1) = [] := by
 unfold restF
 rw [List.drop_left, hi, List.drop_length]
 refine ⟨by simp [ileave], ?_⟩
 have : (A ++ [c]).drop (K.length + 1) = [] := List.drop_eq_nil_of_le (by simp; omega)
 rw [this]; simp [ileave]
theorem rest_pos {d : Nat} {K : List Kv} {C : List (T d)} {f : Ky} (hC : C.length = K.length + 1) (hu : Up (flat (d + 1) (K, C))) (hk : Up K) : flF f (flat (d + 1) (K, C)) = flF f (restF d K C (posK K f)) ∧ Up (restF d K C (posK K f)) ∧ (restF d K C (posK K f)).length ≤ (flat (d + 1) (K, C)).length := by
 have hp := pos_le K f
 have e : flat (d + 1) (K, C) = preI (K.take (posK K f)) ((C.take (posK K f)).map (flat d)) ++ restF d K C (posK K f) := by
  have := ileave_pre (K.take (posK K f)) (K.drop (posK K f)) ((C.take (posK K f)).map (flat d)) ((C.drop (posK K f)).map (flat d)) (by simp; omega)
  rw [List.take_append_drop, ← List.map_append, List.take_append_drop] at this
  exact this
 rw [e] at hu ⊢
 obtain ⟨u1, u2⟩ := up_app hu
 have hb := pre_bel (k := f) _ _ u1 (by rw [lo_take hk f]; exact lo_Bel K f)
 refine ⟨by rw [flF_app, flF_bel hb]; rfl, u2, by simp⟩
attribute [local irreducible] J JL QOp JOp seqQ blockQ loopQ retQ slc cel hex star pur stars Does RV Ent pAt scopeQ
attribute [local irreducible] nodeA nodeX treeA
theorem each_ok (E : World) (x : Kv) (to : Ky) (many : Int) (bt bo bm : Nat) (S : SV) (acc : List Kv) (hacc : acc.length ≤ 2000000) : Does Tryz.prog E 74 [.agg (kvV x).toArray, .pointer (some ⟨bt, 0, none⟩), .pointer (some ⟨bo, 0, none⟩), .pointer (some ⟨bm, 0, none⟩)]
 [cel bt [str to] 9, cel bo [S.v] 54, cel bm [.int .i64 many] 3, slc tKv true S acc]
 fun v L => ∃ S' : SV, v = .bool (rngStep to many acc x).2 ∧ L = [cel bt [str to] 9, cel bo [S'.v] 54, cel bm [.int .i64 many] 3, slc tKv true S' (rngStep to many acc x).1] := by
 refine Does.of Tryz.func74 rfl Tryz.ntmps74 rfl rfl fun F => ?_
 refine J.norm ?_
 refine Sr ?_
 refine L_o rfl rfl rfl (O_box rfl fun b4 => ?_)
 refine Lq (Q_assign rfl) ?_
 refine Ln ?_
 refine J_seq ?_
 refine J_seq ?_
 refine J.mid (fun ρ' L' => envSub [(2, .pointer (some ⟨bo, 0, none⟩)), (3, .pointer (some ⟨bm, 0, none⟩)), (4, .pointer (some ⟨b4, 0, none⟩)), (13, .bool (!decide (to = []) && !kl x.key to))] ρ' ∧ Ent L' [cel b4 (kvV x) 111, cel bt [str to] 9, cel bo [S.v] 54, cel bm [.int .i64 many] 3, slc tKv true S acc, F]) ?_ ?_
 ·by_cases h0 : to = []
  ·subst h0
   refine J_region ?_
   refine Lq (Q_ld 1 rfl rfl rfl rfl) ?_
   refine Lq ((Q_sneq rfl rfl).as (v' := .bool false) rfl) ?_
   refine Lq (Q_move rfl) ?_
   refine L_n rfl rfl rfl ?_
   refine L_n rfl rfl rfl ?_
   refine L_n rfl rfl rfl ?_
   refine L_n rfl rfl rfl ?_
   refine Lq (Q_pickF rfl rfl) ?_
   refine JL_nil ?_
   exact ⟨rfl, ⟨rfl, rfl, rfl, rfl, trivial⟩, Ent.refl _⟩
  ·have e0 : decide (to = []) = false := decide_eq_false h0
   cases hk : kl x.key to with
   | true =>
    refine J_region ?_
    refine Lq (Q_ld 1 rfl rfl rfl rfl) ?_
    refine Lq ((Q_sneq rfl rfl).as (v' := .bool true) (congrArg Value.bool (decide_eq_true h0))) ?_
    refine Lq (Q_move rfl) ?_
    refine Lq (Q_fa0 rfl) ?_
    refine Lq (Q_ld 0 rfl rfl rfl rfl) ?_
    refine Lq (Q_ld 1 rfl rfl rfl rfl) ?_
    refine Lq ((Q_sgeq rfl rfl).as (v' := .bool false) (by rw [less_kl, hk]; rfl)) ?_
    refine Lq (Q_pickT rfl rfl) ?_
    refine JL_nil ?_
    exact ⟨rfl, ⟨rfl, rfl, rfl, by rw [e0]; rfl, trivial⟩, Ent.refl _⟩
   | false =>
    refine J_region ?_
    refine Lq (Q_ld 1 rfl rfl rfl rfl) ?_
    refine Lq ((Q_sneq rfl rfl).as (v' := .bool true) (congrArg Value.bool (decide_eq_true h0))) ?_
    refine Lq (Q_move rfl) ?_
    refine Lq (Q_fa0 rfl) ?_
    refine Lq (Q_ld 0 rfl rfl rfl rfl) ?_
    refine Lq (Q_ld 1 rfl rfl rfl rfl) ?_
    refine Lq ((Q_sgeq rfl rfl).as (v' := .bool true) (by rw [less_kl, hk]; rfl)) ?_
    refine Lq (Q_pickT rfl rfl) ?_
    refine JL_nil ?_
    exact ⟨rfl, ⟨rfl, rfl, rfl, by rw [e0]; rfl, trivial⟩, Ent.refl _⟩
 rintro ρ1 L1 ⟨hsub, hent⟩
 refine J.sub hsub ?_
 refine J.ent hent ?_
 clear hsub hent
 cases hb : (!decide (to = []) && !kl x.key to) with
 | true =>
  have hs : rngStep to many acc x = (acc, false) := by unfold rngStep; rw [if_pos hb]
  refine J_condT rfl ?_
  refine Sr ?_
  refine Lq (Q_assign rfl) ?_
  refine Ln ?_
  refine J_ret ?_
  refine seqQ_ret ?_
  rw [hs]
  exact retQ_ret _ [cel bt [str to] 9, cel bo [S.v] 54, cel bm [.int .i64 many] 3, slc tKv true S acc] (.cons (RV_tmp rfl) .nil) ⟨S, rfl, rfl⟩ (Ent.re [1,2,3,4,5] rfl)
 | false =>
  have hs : rngStep to many acc x = (acc ++ [x], decide (((acc ++ [x]).length : Int) < many)) := by unfold rngStep; rw [if_neg (by rw [hb]; simp)]
  refine J_condF rfl ?_
  refine J_skip ?_
  refine seqQ_normal ?_
  refine Sr ?_
  refine Lq (Q_ld 2 rfl rfl rfl rfl) ?_
  refine Lq (Q_ldA 0 rfl rfl rfl) ?_
  refine L_o rfl rfl rfl (O_litP (τ := tKv) (m := 1) (sz := 2) [x] rfl rfl rfl rfl rfl rfl (by decide) (fun U => ?_))
  refine JL.norm ?_
  refine L_o rfl rfl rfl (O_app (τ := tKv) 5 rfl (fun w h => h.rd 0 rfl) rfl rfl rfl rfl (by simp only [List.length_singleton]; omega) (by decide) (fun W => ?_))
  refine JL.norm ?_
  refine L_s rfl rfl (O_st1 3 rfl rfl rfl rfl rfl ?_)
  refine JL.norm ?_
  refine Ln ?_
  refine J_seq ?_
  rw [hs]
  refine J_region ?_
  refine Lq (Q_ld 3 rfl rfl rfl rfl) ?_
  refine Lq (Q_lenAt 5 rfl rfl) ?_
  refine Lq (Q_ld 4 rfl rfl rfl rfl) ?_
  refine Lq (Q_lss rfl rfl) ?_
  refine Lq (Q_assign rfl) ?_
  refine Ln ?_
  refine J_ret ?_
  exact retQ_ret _ [cel bt [str to] 9, cel bo [W.v] 54, cel bm [.int .i64 many] 3, slc tKv true W (acc ++ [x])] (.cons (RV_tmp rfl) .nil) ⟨W, rfl, rfl⟩ (Ent.re [2,3,4,5,6] rfl)
abbrev eachV (bt bo bm : Nat) : Value := .func (.func 74) #[] #[.pointer (some ⟨bt, 0, none⟩), .pointer (some ⟨bo, 0, none⟩), .pointer (some ⟨bm, 0, none⟩)]
end Go.Proofs.Bt
