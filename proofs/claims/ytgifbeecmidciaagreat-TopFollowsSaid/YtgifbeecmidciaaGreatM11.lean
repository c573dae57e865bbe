/- Part 11 of the texts below the row: Tree9, Tree10, Tree11, Tree12, Tree13, Tree14, Vot1, Vot2. -/
import Derived.Test.YtgifbeecmidciaaGreatM10
/- A key taken away. -/
set_option autoImplicit false
namespace Go.Proofs.Bt
open Go.SL
theorem pL_get1' {d : Nat} (A B : List (Nat × T d)) (e : Nat × T d) (h : A.length < (pL (A ++ e :: B)).length) : (pL (A ++ e :: B))[A.length] = some e.1 := mid_get _ A B e h
attribute [local irreducible] J JL QOp JOp seqQ blockQ loopQ retQ slc cel hex star pur stars Does RV Ent pAt scopeQ
attribute [local irreducible] nodeA nodeX treeA
theorem ndel_ok (E : World) (d0 p0 m0 : Nat) (t0 : T d0) (k0 : Ky) (hw0 : wf m0 d0 t0) (hm0 : 0 < d0 → 1 ≤ m0) (hu0 : Up (flat d0 t0)) (hh0 : hasL (flat d0 t0) k0 = true) : Does Tryz.prog E 163 [.pointer (some ⟨p0, 0, none⟩), str k0] [nodeA d0 p0 t0]
 fun r L => r = .tuple #[] ∧ L = [nodeX (m0 - 1) d0 p0 (delL (flat d0 t0) k0)] := by
 refine Does.of Tryz.func163 rfl Tryz.ntmps163 rfl rfl fun F => ?_
 refine J.norm ?_
 refine J_block ?_
 refine J_loop (fun i : It × Ky => wf i.1.m i.1.d i.1.t ∧ (0 < i.1.d → 1 ≤ i.1.m) ∧ Up (flat i.1.d i.1.t) ∧ hasL (flat i.1.d i.1.t) i.2 = true ∧ Ent [nodeX (i.1.m - 1) i.1.d i.1.p (delL (flat i.1.d i.1.t) i.2), i.1.G] [nodeX (m0 - 1) d0 p0 (delL (flat d0 t0) k0), F])
  (fun i => [(0, .pointer (some ⟨i.1.p, 0, none⟩)), (1, str i.2)]) (fun i => [nodeA i.1.d i.1.p i.1.t, i.1.G]) (fun i => i.1.d) (⟨d0, p0, m0, t0, F⟩, k0) ⟨hw0, hm0, hu0, hh0, Ent.refl _⟩ ⟨rfl, rfl, trivial⟩ (Ent.refl _) ?_
 rintro ⟨⟨d, p, m, t, G⟩, k⟩ ⟨hw, hm, hu, hh, hcl⟩
 dsimp only at hw hm hu hh hcl ⊢
 have hku := ks_up hw hu
 have hk7 := (wf_ks hw).2
 cases d with
 | zero =>
  refine J.leaf fun S R => ?_
  have hb : hasL (tks 0 t) k = true := hh
  have hpl := pos_le (tks 0 t) k
  have hf := find_ok E p S R (tks 0 t) k (by omega) hku
  obtain ⟨K1, K2, u, hK, hp⟩ := hit_split hku hb
  rw [hb] at hf
  have hw2 : m ≤ (tks 0 t).length ∧ (tks 0 t).length ≤ 7 := hw
  have hfl : flat 0 (K1 ++ K2 : List Kv) = delL (flat 0 t) k := by
   show K1 ++ K2 = delL (tks 0 t) k
   rw [hK] at hku ⊢
   obtain ⟨m1, m2, _, _⟩ := up_mid hku
   exact (del_hit m1 m2 u).symm
  generalize hks : tks 0 t = K at *
  generalize posK K k = i at *
  subst hK
  have hlt : i < (K1 ++ (⟨k, u⟩ : Kv) :: K2).length := by rw [← hp]; simp
  refine J_block ?_
  refine Sr ?_
  refine Lq (Q_move rfl) ?_
  refine Lq (Q_move rfl) ?_
  refine L_o rfl rfl rfl (O_call [0,1] [2,3] hf rfl rfl ?_)
  rintro _ _ ⟨rfl, rfl⟩
  refine JL.norm ?_
  refine Lq (Q_move rfl) ?_
  refine Lq (Q_extract (v := .int .i64 (i : Int)) rfl rfl) ?_
  refine Lq (Q_extract (v := .bool true) rfl rfl) ?_
  refine Lq (Q_assign rfl) ?_
  refine Lq (Q_assign rfl) ?_
  refine Ln ?_
  refine J_block ?_
  refine Sr ?_
  refine Lq (Q_move rfl) ?_
  refine L_o rfl rfl rfl (O_call [0,2] [1,3] (leaf_ok E p S R []) rfl rfl ?_)
  rintro _ _ ⟨rfl, rfl⟩
  refine JL.norm ?_
  refine Lq (Q_assign rfl) ?_
  refine Ln ?_
  refine J_condT rfl ?_
  refine J_seq ?_
  refine Sr ?_
  refine Lq (Q_move rfl) ?_
  refine Ln ?_
  refine J_condT rfl ?_
  refine J_region ?_
  refine Lq (Q_move rfl) ?_
  refine Lq (Q_move rfl) ?_
  refine Lq (Q_nilCheck rfl) ?_
  refine Lq (Q_fa0 rfl) ?_
  refine Lq (Q_ld 0 rfl rfl rfl rfl) ?_
  refine Lq (Q_move rfl) ?_
  refine Lq (Q_move rfl) ?_
  refine Lq (Q_add rfl rfl (by first | exact IntWalk.i64_in _ (by omega) | exact IntWalk.u8_in _ (by omega) | exact IntWalk.u32_in _ (by omega) | exact IntWalk.u64_in _ (by omega) | rfl)) ?_
  refine L_o rfl rfl rfl (O_call [2] [0,1,3] (kvdel_ok E S (K1 ++ (⟨k, u⟩ : Kv) :: K2) i (i + 1) (by omega) hlt (by omega)) rfl rfl ?_)
  rintro _ _ ⟨S2, rfl, rfl⟩
  refine JL.norm ?_
  refine Lq (Q_nilCheck rfl) ?_
  refine Lq (Q_fa0 rfl) ?_
  refine L_s rfl rfl (O_st1 1 rfl rfl rfl rfl rfl ?_)
  refine JL.norm ?_
  refine Ln ?_
  refine J_ret ?_
  refine blockQ_ret ?_
  refine blockQ_ret ?_
  refine loopQ_ret ?_
  refine blockQ_ret ?_
  rw [del_mid hp]
  simp only [List.length_append, List.length_cons] at hw2
  exact retQ_ret _ [nodeX (m0 - 1) d0 p0 (delL (flat d0 t0) k0)] .nil ⟨rfl, rfl⟩ ((Ent.re [1,0,2,3] rfl).trans ((Ent.leafA (t := (K1 ++ K2 : List Kv))).trans ((Ent.mkX (show wf (m - 1) 0 (K1 ++ K2 : List Kv) from ⟨by simp only [List.length_append]; omega, by simp only [List.length_append]; omega⟩) hfl).trans hcl)))
 | succ d =>
  obtain ⟨Kt, C⟩ := t
  have hm1 : 1 ≤ m := hm (Nat.succ_pos d)
  refine J.inner fun S R es hes => ?_
  dsimp only at hes ⊢
  have hku : Up Kt := hku
  obtain ⟨hwm, hw7, hwC, hwc⟩ := hw
  dsimp only at hwm hw7 hwC hwc
  have hpl := pos_le Kt k
  have hel : es.length = Kt.length + 1 := by rw [← hwC, ← hes, List.length_map]
  have hf := find_ok E p S R Kt k (by omega) hku
  have hlf := leaf_ok E p S R (pL es)
  rw [show decide (((pL es).length : Int) = 0) = false from decide_eq_false (by rw [pL_len]; omega)] at hlf
  cases hb : hasL Kt k with
  | true =>
   obtain ⟨K1, K2, u, hK, hp⟩ := hit_split hku hb
   rw [hb] at hf
   generalize posK Kt k = i at *
   subst hK
   have hlen : (K1 ++ (⟨k, u⟩ : Kv) :: K2).length = K1.length + K2.length + 1 := by simp; omega
   obtain ⟨A, x, B', rfl, hAi⟩ := split_at (l := es) (i := i) (by omega)
   subst hAi
   have hel2 : (A ++ x :: B').length = A.length + B'.length + 1 := by simp; omega
   obtain ⟨y, B, rfl⟩ := cons_of (l := B') (by omega)
   rw [List.length_cons] at hel2
   have hBl : K2.length = B.length := by omega
   subst hes
   have hw3 : ∀ c ∈ A ++ x :: y :: B, wf 3 d c.2 := fun c hc => hwc c.2 (List.mem_map_of_mem hc)
   have hwx : wf 3 d x.2 := hw3 x (by simp)
   have hwy : wf 3 d y.2 := hw3 y (by simp)
   have hx3 := (wf_ks hwx).1
   have hy3 := (wf_ks hwy).1
   have hlt : A.length < (K1 ++ (⟨k, u⟩ : Kv) :: K2).length := by omega
   have hgi := get_mid (x := (⟨k, u⟩ : Kv)) (Y := K2) hp hlt
   have hset := fun g : Kv => set_mid (x := (⟨k, u⟩ : Kv)) (y := g) (Y := K2) hp
   have hlt2 : ∀ g : Kv, A.length < (K1 ++ g :: K2).length := fun g => by simp only [List.length_append, List.length_cons] at hlt ⊢; exact hlt
   have hgi2 : ∀ g : Kv, (K1 ++ g :: K2)[A.length]'(hlt2 g) = g := fun g => get_mid hp (hlt2 g)
   have hu2 : Up (flat (d + 1) (K1 ++ ⟨k, u⟩ :: K2, A.map (·.2) ++ x.2 :: y.2 :: B.map (·.2))) := by simpa using hu
   have hAm : K1.length = (A.map (·.2)).length := by simpa using hp
   have hcl2 : Ent [nodeX (m - 1) (d + 1) p (delL (flat (d + 1) (K1 ++ ⟨k, u⟩ :: K2, A.map (·.2) ++ x.2 :: y.2 :: B.map (·.2))) k), G] [nodeX (m0 - 1) d0 p0 (delL (flat d0 t0) k0), F] := by simpa using hcl
   have hPx : A.length < (pL (A ++ x :: y :: B)).length := by rw [pL_len]; simp
   have hPy : A.length + 1 < (pL (A ++ x :: y :: B)).length := by rw [pL_len]; simp
   have gx := pL_get1 A B x y hPx
   have gy := pL_get2 A B x y hPy
   refine J_block ?_
   refine Sr ?_
   refine Lq (Q_move rfl) ?_
   refine Lq (Q_move rfl) ?_
   refine L_o rfl rfl rfl (O_call [0,1] [2,3,4] hf rfl rfl ?_)
   rintro _ _ ⟨rfl, rfl⟩
   refine JL.norm ?_
   refine Lq (Q_move rfl) ?_
   refine Lq (Q_extract (v := .int .i64 (A.length : Int)) rfl rfl) ?_
   refine Lq (Q_extract (v := .bool true) rfl rfl) ?_
   refine Lq (Q_assign rfl) ?_
   refine Lq (Q_assign rfl) ?_
   refine Ln ?_
   refine J_block ?_
   refine Sr ?_
   refine Lq (Q_move rfl) ?_
   refine L_o rfl rfl rfl (O_call [0,2] [1,3,4] hlf rfl rfl ?_)
   rintro _ _ ⟨rfl, rfl⟩
   refine JL.norm ?_
   refine Lq (Q_assign rfl) ?_
   refine Ln ?_
   refine J_condF rfl ?_
   refine Sr ?_
   refine Lq (Q_move rfl) ?_
   refine Lq ((Q_not rfl).as (v' := .bool false) rfl) ?_
   refine Lq (Q_assign rfl) ?_
   refine Ln ?_
   refine J_condF rfl ?_
   refine J_seq ?_
   refine J.ent ((Ent.re [3,0,1,2,4] rfl).trans (Ent.mid_out (ndE d) A x (y :: B))) ?_
   refine J.peek fun Sc Rc X hX => ?_
   have hclose : Ent (ndC x.1 Sc Rc :: slc tKv true Sc (tks d x.2) :: X :: stars ((A ++ y :: B).map (ndE d)) :: ndC p S R :: slc tNd true R (pL (A ++ x :: y :: B)) :: slc tKv true S (K1 ++ ⟨k, u⟩ :: K2) :: G :: []) [nodeA d x.1 x.2, stars ((A ++ y :: B).map (ndE d)), ndC p S R, slc tNd true R (pL (A ++ x :: y :: B)), slc tKv true S (K1 ++ ⟨k, u⟩ :: K2), G] := hX _
   by_cases c1 : 3 < (tks d x.2).length
   ·have he := edgeT_ok E d x.1 3 x.2 hwx (by decide)
    refine J_region ?_
    refine Lq (Q_move rfl) ?_
    refine Lq (Q_nilCheck rfl) ?_
    refine Lq (Q_fa0 rfl) ?_
    refine Lq (Q_ld 4 rfl rfl rfl rfl) ?_
    refine Lq (Q_move rfl) ?_
    refine Lq (Q_ixAt 5 A.length rfl rfl rfl rfl hPx rfl) ?_
    refine Lq (Q_ldEAt 5 A.length 0 (v := .pointer (some ⟨x.1, 0, none⟩)) rfl rfl rfl rfl hPx (by decide) (by rw [gx]; rfl)) ?_
    refine Lq (Q_nilCheck rfl) ?_
    refine Lq (Q_fa0 rfl) ?_
    refine Lq (Q_ld 0 rfl rfl rfl rfl) ?_
    refine Lq (Q_lenAt 1 rfl rfl) ?_
    refine Lq ((Q_gtr rfl rfl).as (v' := .bool true) (congrArg Value.bool (decide_eq_true (by omega)))) ?_
    refine Lq (Q_assign rfl) ?_
    refine Ln ?_
    refine J_condT rfl ?_
    refine J_seq ?_
    refine J.ent hclose ?_
    refine DH [2,3,4] [0,1,2,3,4,5,6,7,8,9,10,11,13] (.quiet 0 (.quiet 1 (.quiet 2 (.quiet 3 (.quiet 4 (.quiet 5 (.quiet 6 (.quiet 7 (.quiet 8 (.quiet 9 (.quiet 10 (.quiet 11 (.loud 12 (.quiet 13 (.loud 14 .done))))))))))))))) Tryz.mixed ?_
    refine Sq (Ent.re [2,3,4] rfl) rfl (Q_move rfl) ?_
    refine Sq (Ent.re [2,3,4] rfl) rfl (Q_nilCheck rfl) ?_
    refine Sq (Ent.re [2,3,4] rfl) rfl (Q_fa0 rfl) ?_
    refine Sq (Ent.re [2,3,4] rfl) rfl (Q_ld 0 rfl rfl rfl rfl) ?_
    refine Sq (Ent.re [2,3,4] rfl) rfl (Q_move rfl) ?_
    refine Sq (Ent.re [2,3,4] rfl) rfl (Q_move rfl) ?_
    refine Sq (Ent.re [2,3,4] rfl) rfl (Q_nilCheck rfl) ?_
    refine Sq (Ent.re [2,3,4] rfl) rfl (Q_fa0 rfl) ?_
    refine Sq (Ent.re [2,3,4] rfl) rfl (Q_ld 0 rfl rfl rfl rfl) ?_
    refine Sq (Ent.re [2,3,4] rfl) rfl (Q_move rfl) ?_
    refine Sq (Ent.re [2,3,4] rfl) rfl (Q_ixAt 1 A.length rfl rfl rfl rfl hPx rfl) ?_
    refine Sq (Ent.re [2,3,4] rfl) rfl (Q_ldEAt 1 A.length 0 (v := .pointer (some ⟨x.1, 0, none⟩)) rfl rfl rfl rfl hPx (by decide) (by rw [gx]; rfl)) ?_
    refine S_o rfl rfl rfl rfl (O_call [0] [1,2,3,4,5] he rfl rfl ?_)
    (rintro _ _ ⟨Z, g, hZ, rfl, rfl⟩; refine ⟨_, fun _ => ⟨Ent.reN [2,3,4] rfl, Ent.refl _⟩, ?_⟩)
    refine JS.norm ?_
    refine Sq (Ent.re [2,3,4] rfl) rfl (Q_ixAt 2 A.length rfl rfl rfl rfl hlt rfl) ?_
    refine S_s rfl rfl rfl (O_stE 4 A.length 0 g rfl rfl rfl rfl rfl rfl (by intro c hc; simp [Value.cells] at hc; rcases hc with rfl | rfl <;> rfl) hlt (Nat.le_refl 2) (by simp [tKv, Value.cells]) ⟨[], free_no (by kernel_rfl), ?_⟩)
    refine JS.norm ?_
    refine S_nil ?_
    refine seqQ_normal ?_
    rw [hset]
    refine DH [2,3,4] [0,1,2,3,4,5,6,7,8,9,10,11,12,13,14,15,16] (.quiet 0 (.quiet 1 (.quiet 2 (.quiet 3 (.quiet 4 (.quiet 5 (.quiet 6 (.quiet 7 (.quiet 8 (.quiet 9 (.quiet 10 (.quiet 11 (.quiet 12 (.quiet 13 (.quiet 14 (.quiet 15 (.quiet 16 .done))))))))))))))))) Tryz.mixed ?_
    refine Sq (Ent.re [2,3,4] rfl) rfl (Q_move rfl) ?_
    refine Sq (Ent.re [2,3,4] rfl) rfl (Q_nilCheck rfl) ?_
    refine Sq (Ent.re [2,3,4] rfl) rfl (Q_fa0 rfl) ?_
    refine Sq (Ent.re [2,3,4] rfl) rfl (Q_ld 0 rfl rfl rfl rfl) ?_
    refine Sq (Ent.re [2,3,4] rfl) rfl (Q_move rfl) ?_
    refine Sq (Ent.re [2,3,4] rfl) rfl (Q_ixAt 2 A.length rfl rfl rfl rfl (hlt2 g) rfl) ?_
    refine Sq (Ent.re [2,3,4] rfl) rfl (Q_pfa rfl) ?_
    refine Sq (Ent.re [2,3,4] rfl) rfl (Q_ldEAt 2 A.length 0 (v := str g.key) rfl rfl rfl rfl (hlt2 g) (by decide) (by rw [hgi2]; rfl)) ?_
    refine Sq (Ent.re [2,3,4] rfl) rfl (Q_move rfl) ?_
    refine Sq (Ent.re [2,3,4] rfl) rfl (Q_nilCheck rfl) ?_
    refine Sq (Ent.re [2,3,4] rfl) rfl (Q_fa0 rfl) ?_
    refine Sq (Ent.re [2,3,4] rfl) rfl (Q_ld 0 rfl rfl rfl rfl) ?_
    refine Sq (Ent.re [2,3,4] rfl) rfl (Q_move rfl) ?_
    refine Sq (Ent.re [2,3,4] rfl) rfl (Q_ixAt 1 A.length rfl rfl rfl rfl hPx rfl) ?_
    refine Sq (Ent.re [2,3,4] rfl) rfl (Q_ldEAt 1 A.length 0 (v := .pointer (some ⟨x.1, 0, none⟩)) rfl rfl rfl rfl hPx (by decide) (by rw [gx]; rfl)) ?_
    refine Sq (Ent.re [2,3,4] rfl) rfl (Q_assign rfl) ?_
    refine Sq (Ent.re [2,3,4] rfl) rfl (Q_assign rfl) ?_
    refine S_nil ?_
    refine blockQ_normal ?_
    refine blockQ_normal ?_
    obtain ⟨q1, q2, q3⟩ := del_left hAm hu2 hZ
    refine loopQ_normal (⟨d, x.1, 4, x.2, stars (parL p S R (K1 ++ g :: K2) (pL A ++ some x.1 :: pL (y :: B)) (A ++ y :: B) G)⟩, g.key) ⟨wf_mk hwx c1, fun _ => (by show 1 ≤ 4; decide), q1, q2, (plugX hp (by simp [hBl]) (by simp only [List.length_cons]; omega) (by simp only [List.length_cons]; omega) (fun c hc => hw3 c (by simp only [List.mem_append, List.mem_cons] at hc ⊢; exact hc.elim .inl (fun h => .inr (.inr h)))) q3).trans hcl2⟩ (Nat.lt_succ_self d) ⟨rfl, rfl, trivial⟩ Ent.foldP
   ·skip
    refine J_region ?_
    refine Lq (Q_move rfl) ?_
    refine Lq (Q_nilCheck rfl) ?_
    refine Lq (Q_fa0 rfl) ?_
    refine Lq (Q_ld 4 rfl rfl rfl rfl) ?_
    refine Lq (Q_move rfl) ?_
    refine Lq (Q_ixAt 5 A.length rfl rfl rfl rfl hPx rfl) ?_
    refine Lq (Q_ldEAt 5 A.length 0 (v := .pointer (some ⟨x.1, 0, none⟩)) rfl rfl rfl rfl hPx (by decide) (by rw [gx]; rfl)) ?_
    refine Lq (Q_nilCheck rfl) ?_
    refine Lq (Q_fa0 rfl) ?_
    refine Lq (Q_ld 0 rfl rfl rfl rfl) ?_
    refine Lq (Q_lenAt 1 rfl rfl) ?_
    refine Lq ((Q_gtr rfl rfl).as (v' := .bool false) (congrArg Value.bool (decide_eq_false (by omega)))) ?_
    refine Lq (Q_assign rfl) ?_
    refine Ln ?_
    refine J_condF rfl ?_
    refine J_seq ?_
    refine J.ent ((hclose).trans (Ent.mid_in (ndE d) A x (y :: B))) ?_
    have eS : (A ++ x :: y :: B).map (ndE d) = ((A ++ [x]) ++ y :: B).map (ndE d) := by simp
    have eA : (A ++ x :: y :: B) = (A ++ [x]) ++ y :: B := by simp
    rw [eS]
    refine J.ent (Ent.mid_out (ndE d) (A ++ [x]) y B) ?_
    refine J.peek fun Sd Rd Y hY => ?_
    have hclos2 : Ent (ndC y.1 Sd Rd :: slc tKv true Sd (tks d y.2) :: Y :: stars (((A ++ [x]) ++ B).map (ndE d)) :: ndC p S R :: slc tNd true R (pL (A ++ x :: y :: B)) :: slc tKv true S (K1 ++ ⟨k, u⟩ :: K2) :: G :: []) [nodeA d y.1 y.2, stars (((A ++ [x]) ++ B).map (ndE d)), ndC p S R, slc tNd true R (pL (A ++ x :: y :: B)), slc tKv true S (K1 ++ ⟨k, u⟩ :: K2), G] := hY _
    by_cases c2 : 3 < (tks d y.2).length
    ·have he := edgeF_ok E d y.1 3 y.2 hwy (by decide)
     refine J_region ?_
     refine Lq (Q_move rfl) ?_
     refine Lq (Q_nilCheck rfl) ?_
     refine Lq (Q_fa0 rfl) ?_
     refine Lq (Q_ld 4 rfl rfl rfl rfl) ?_
     refine Lq (Q_move rfl) ?_
     refine Lq (Q_add rfl rfl (by first | exact IntWalk.i64_in _ (by omega) | exact IntWalk.u8_in _ (by omega) | exact IntWalk.u32_in _ (by omega) | exact IntWalk.u64_in _ (by omega) | rfl)) ?_
     refine Lq (Q_ixAt 5 (A.length + 1) rfl rfl rfl rfl hPy rfl) ?_
     refine Lq (Q_ldEAt 5 (A.length + 1) 0 (v := .pointer (some ⟨y.1, 0, none⟩)) rfl rfl rfl rfl hPy (by decide) (by rw [gy]; rfl)) ?_
     refine Lq (Q_nilCheck rfl) ?_
     refine Lq (Q_fa0 rfl) ?_
     refine Lq (Q_ld 0 rfl rfl rfl rfl) ?_
     refine Lq (Q_lenAt 1 rfl rfl) ?_
     refine Lq ((Q_gtr rfl rfl).as (v' := .bool true) (congrArg Value.bool (decide_eq_true (by omega)))) ?_
     refine Lq (Q_assign rfl) ?_
     refine Ln ?_
     refine J_condT rfl ?_
     refine J_seq ?_
     refine J.ent hclos2 ?_
     refine DH [2,3,4] [0,1,2,3,4,5,6,7,8,9,10,11,12,14] (.quiet 0 (.quiet 1 (.quiet 2 (.quiet 3 (.quiet 4 (.quiet 5 (.quiet 6 (.quiet 7 (.quiet 8 (.quiet 9 (.quiet 10 (.quiet 11 (.quiet 12 (.loud 13 (.quiet 14 (.loud 15 .done)))))))))))))))) Tryz.mixed ?_
     refine Sq (Ent.re [2,3,4] rfl) rfl (Q_move rfl) ?_
     refine Sq (Ent.re [2,3,4] rfl) rfl (Q_nilCheck rfl) ?_
     refine Sq (Ent.re [2,3,4] rfl) rfl (Q_fa0 rfl) ?_
     refine Sq (Ent.re [2,3,4] rfl) rfl (Q_ld 0 rfl rfl rfl rfl) ?_
     refine Sq (Ent.re [2,3,4] rfl) rfl (Q_move rfl) ?_
     refine Sq (Ent.re [2,3,4] rfl) rfl (Q_move rfl) ?_
     refine Sq (Ent.re [2,3,4] rfl) rfl (Q_nilCheck rfl) ?_
     refine Sq (Ent.re [2,3,4] rfl) rfl (Q_fa0 rfl) ?_
     refine Sq (Ent.re [2,3,4] rfl) rfl (Q_ld 0 rfl rfl rfl rfl) ?_
     refine Sq (Ent.re [2,3,4] rfl) rfl (Q_move rfl) ?_
     refine Sq (Ent.re [2,3,4] rfl) rfl (Q_add rfl rfl (by first | exact IntWalk.i64_in _ (by omega) | exact IntWalk.u8_in _ (by omega) | exact IntWalk.u32_in _ (by omega) | exact IntWalk.u64_in _ (by omega) | rfl)) ?_
     refine Sq (Ent.re [2,3,4] rfl) rfl (Q_ixAt 1 (A.length + 1) rfl rfl rfl rfl hPy rfl) ?_
     refine Sq (Ent.re [2,3,4] rfl) rfl (Q_ldEAt 1 (A.length + 1) 0 (v := .pointer (some ⟨y.1, 0, none⟩)) rfl rfl rfl rfl hPy (by decide) (by rw [gy]; rfl)) ?_
     refine S_o rfl rfl rfl rfl (O_call [0] [1,2,3,4,5] he rfl rfl ?_)
     (rintro _ _ ⟨Z, g, hZ, rfl, rfl⟩; refine ⟨_, fun _ => ⟨Ent.reN [2,3,4] rfl, Ent.refl _⟩, ?_⟩)
     refine JS.norm ?_
     refine Sq (Ent.re [2,3,4] rfl) rfl (Q_ixAt 2 A.length rfl rfl rfl rfl hlt rfl) ?_
     refine S_s rfl rfl rfl (O_stE 4 A.length 0 g rfl rfl rfl rfl rfl rfl (by intro c hc; simp [Value.cells] at hc; rcases hc with rfl | rfl <;> rfl) hlt (Nat.le_refl 2) (by simp [tKv, Value.cells]) ⟨[], free_no (by kernel_rfl), ?_⟩)
     refine JS.norm ?_
     refine S_nil ?_
     refine seqQ_normal ?_
     rw [hset]
     refine DH [2,3,4] [0,1,2,3,4,5,6,7,8,9,10,11,12,13,14,15,16,17] (.quiet 0 (.quiet 1 (.quiet 2 (.quiet 3 (.quiet 4 (.quiet 5 (.quiet 6 (.quiet 7 (.quiet 8 (.quiet 9 (.quiet 10 (.quiet 11 (.quiet 12 (.quiet 13 (.quiet 14 (.quiet 15 (.quiet 16 (.quiet 17 .done)))))))))))))))))) Tryz.mixed ?_
     refine Sq (Ent.re [2,3,4] rfl) rfl (Q_move rfl) ?_
     refine Sq (Ent.re [2,3,4] rfl) rfl (Q_nilCheck rfl) ?_
     refine Sq (Ent.re [2,3,4] rfl) rfl (Q_fa0 rfl) ?_
     refine Sq (Ent.re [2,3,4] rfl) rfl (Q_ld 0 rfl rfl rfl rfl) ?_
     refine Sq (Ent.re [2,3,4] rfl) rfl (Q_move rfl) ?_
     refine Sq (Ent.re [2,3,4] rfl) rfl (Q_ixAt 2 A.length rfl rfl rfl rfl (hlt2 g) rfl) ?_
     refine Sq (Ent.re [2,3,4] rfl) rfl (Q_pfa rfl) ?_
     refine Sq (Ent.re [2,3,4] rfl) rfl (Q_ldEAt 2 A.length 0 (v := str g.key) rfl rfl rfl rfl (hlt2 g) (by decide) (by rw [hgi2]; rfl)) ?_
     refine Sq (Ent.re [2,3,4] rfl) rfl (Q_move rfl) ?_
     refine Sq (Ent.re [2,3,4] rfl) rfl (Q_nilCheck rfl) ?_
     refine Sq (Ent.re [2,3,4] rfl) rfl (Q_fa0 rfl) ?_
     refine Sq (Ent.re [2,3,4] rfl) rfl (Q_ld 0 rfl rfl rfl rfl) ?_
     refine Sq (Ent.re [2,3,4] rfl) rfl (Q_move rfl) ?_
     refine Sq (Ent.re [2,3,4] rfl) rfl (Q_add rfl rfl (by first | exact IntWalk.i64_in _ (by omega) | exact IntWalk.u8_in _ (by omega) | exact IntWalk.u32_in _ (by omega) | exact IntWalk.u64_in _ (by omega) | rfl)) ?_
     refine Sq (Ent.re [2,3,4] rfl) rfl (Q_ixAt 1 (A.length + 1) rfl rfl rfl rfl hPy rfl) ?_
     refine Sq (Ent.re [2,3,4] rfl) rfl (Q_ldEAt 1 (A.length + 1) 0 (v := .pointer (some ⟨y.1, 0, none⟩)) rfl rfl rfl rfl hPy (by decide) (by rw [gy]; rfl)) ?_
     refine Sq (Ent.re [2,3,4] rfl) rfl (Q_assign rfl) ?_
     refine Sq (Ent.re [2,3,4] rfl) rfl (Q_assign rfl) ?_
     refine S_nil ?_
     refine blockQ_normal ?_
     refine blockQ_normal ?_
     obtain ⟨q1, q2, q3⟩ := del_right hAm hu2 hZ
     rw [show K1 ++ g :: K2 = (K1 ++ [g]) ++ K2 by simp, eA]
     refine loopQ_normal (⟨d, y.1, 4, y.2, stars (parL p S R ((K1 ++ [g]) ++ K2) (pL (A ++ [x]) ++ some y.1 :: pL B) ((A ++ [x]) ++ B) G)⟩, g.key) ⟨wf_mk hwy c2, fun _ => (by show 1 ≤ 4; decide), q1, q2, (plugX (by simp [hp]) hBl (by simp only [List.length_append, List.length_singleton]; omega) (by simp only [List.length_append, List.length_singleton]; omega) (fun c hc => hw3 c (by rw [eA]; simp only [List.mem_append, List.mem_cons] at hc ⊢; exact hc.elim .inl (fun h => .inr (.inr h)))) (by rw [q3]; simp)).trans hcl2⟩ (Nat.lt_succ_self d) ⟨rfl, rfl, trivial⟩ Ent.foldP
    ·skip
     refine J_region ?_
     refine Lq (Q_move rfl) ?_
     refine Lq (Q_nilCheck rfl) ?_
     refine Lq (Q_fa0 rfl) ?_
     refine Lq (Q_ld 4 rfl rfl rfl rfl) ?_
     refine Lq (Q_move rfl) ?_
     refine Lq (Q_add rfl rfl (by first | exact IntWalk.i64_in _ (by omega) | exact IntWalk.u8_in _ (by omega) | exact IntWalk.u32_in _ (by omega) | exact IntWalk.u64_in _ (by omega) | rfl)) ?_
     refine Lq (Q_ixAt 5 (A.length + 1) rfl rfl rfl rfl hPy rfl) ?_
     refine Lq (Q_ldEAt 5 (A.length + 1) 0 (v := .pointer (some ⟨y.1, 0, none⟩)) rfl rfl rfl rfl hPy (by decide) (by rw [gy]; rfl)) ?_
     refine Lq (Q_nilCheck rfl) ?_
     refine Lq (Q_fa0 rfl) ?_
     refine Lq (Q_ld 0 rfl rfl rfl rfl) ?_
     refine Lq (Q_lenAt 1 rfl rfl) ?_
     refine Lq ((Q_gtr rfl rfl).as (v' := .bool false) (congrArg Value.bool (decide_eq_false (by omega)))) ?_
     refine Lq (Q_assign rfl) ?_
     refine Ln ?_
     refine J_condF rfl ?_
     refine J_seq ?_
     refine J.ent (hclos2.trans (Ent.mid_in (ndE d) (A ++ [x]) y B)) ?_
     rw [← eS]
     refine J.ent (Ent.re [1,3,2,0,4] rfl) ?_
     refine J_region ?_
     refine Lq (Q_move rfl) ?_
     refine Lq (Q_move rfl) ?_
     refine L_o rfl rfl rfl (O_call [0,1,2,3] [4] (merge_ok E d p S R K1 K2 ⟨k, u⟩ A B x y hp hwx hwy (by omega) (by omega) (by omega) (by omega)) rfl rfl ?_)
     rintro _ _ ⟨rfl, S', R', cm, f1, w1, hc7, rfl⟩
     refine JL.norm ?_
     refine Ln ?_
     have w4 : wf 4 d cm := wf_mk w1 (by omega)
     have hPm : A.length < (pL (A ++ (x.1, cm) :: B)).length := by rw [pL_len]; simp
     have gm := pL_get1' A B (x.1, cm) hPm
     refine J_region ?_
     refine Lq (Q_move rfl) ?_
     refine Lq (Q_nilCheck rfl) ?_
     refine Lq (Q_fa0 rfl) ?_
     refine Lq (Q_ld 0 rfl rfl rfl rfl) ?_
     refine Lq (Q_move rfl) ?_
     refine Lq (Q_ixAt 2 A.length rfl rfl rfl rfl hPm rfl) ?_
     refine Lq (Q_ldEAt 2 A.length 0 (v := .pointer (some ⟨x.1, 0, none⟩)) rfl rfl rfl rfl hPm (by decide) (by rw [gm]; rfl)) ?_
     refine Lq (Q_assign rfl) ?_
     refine JL_nil ?_
     refine blockQ_normal ?_
     refine blockQ_normal ?_
     obtain ⟨q1, q2, q3⟩ := del_mid2 hAm hu2 f1
     refine loopQ_normal (⟨d, x.1, 4, cm, stars (parL p S' R' (K1 ++ K2) (pL A ++ some x.1 :: pL B) (A ++ B) G)⟩, k) ⟨w4, fun _ => (by show 1 ≤ 4; decide), q1, q2, (plugX hp hBl (by omega) (by omega) (fun c hc => hw3 c (by simp only [List.mem_append, List.mem_cons] at hc ⊢; exact hc.elim .inl (fun h => .inr (.inr (.inr h))))) q3).trans hcl2⟩ (Nat.lt_succ_self d) ⟨rfl, rfl, trivial⟩ (Ent.downN (e := (x.1, cm)))
  | false =>
   obtain ⟨K1, K2, hK, hp, hk1, hk2⟩ := miss_split hku hb
   rw [hb] at hf
   generalize posK Kt k = i at *
   subst hK
   have hlen : (K1 ++ K2).length = K1.length + K2.length := by simp
   obtain ⟨A, e, B, rfl, hAi⟩ := split_at (l := es) (i := i) (by omega)
   subst hAi
   have hel2 : (A ++ e :: B).length = A.length + B.length + 1 := by simp; omega
   have hBl : K2.length = B.length := by omega
   subst hes
   have hw3 : ∀ c ∈ A ++ e :: B, wf 3 d c.2 := fun c hc => hwc c.2 (List.mem_map_of_mem hc)
   have hu2 : Up (flat (d + 1) (K1 ++ K2, A.map (·.2) ++ e.2 :: B.map (·.2))) := by simpa using hu
   have hh2 : hasL (flat (d + 1) (K1 ++ K2, A.map (·.2) ++ e.2 :: B.map (·.2))) k = true := by simpa using hh
   have hcl2 : Ent [nodeX (m - 1) (d + 1) p (delL (flat (d + 1) (K1 ++ K2, A.map (·.2) ++ e.2 :: B.map (·.2))) k), G] [nodeX (m0 - 1) d0 p0 (delL (flat d0 t0) k0), F] := by simpa using hcl
   refine J_block ?_
   refine Sr ?_
   refine Lq (Q_move rfl) ?_
   refine Lq (Q_move rfl) ?_
   refine L_o rfl rfl rfl (O_call [0,1] [2,3,4] hf rfl rfl ?_)
   rintro _ _ ⟨rfl, rfl⟩
   refine JL.norm ?_
   refine Lq (Q_move rfl) ?_
   refine Lq (Q_extract (v := .int .i64 (A.length : Int)) rfl rfl) ?_
   refine Lq (Q_extract (v := .bool false) rfl rfl) ?_
   refine Lq (Q_assign rfl) ?_
   refine Lq (Q_assign rfl) ?_
   refine Ln ?_
   refine J_block ?_
   refine Sr ?_
   refine Lq (Q_move rfl) ?_
   refine L_o rfl rfl rfl (O_call [0,2] [1,3,4] hlf rfl rfl ?_)
   rintro _ _ ⟨rfl, rfl⟩
   refine JL.norm ?_
   refine Lq (Q_assign rfl) ?_
   refine Ln ?_
   refine J_condF rfl ?_
   refine Sr ?_
   refine Lq (Q_move rfl) ?_
   refine Lq ((Q_not rfl).as (v' := .bool true) rfl) ?_
   refine Lq (Q_assign rfl) ?_
   refine Ln ?_
   refine J_condT rfl ?_
   refine J_region ?_
   refine Lq (Q_move rfl) ?_
   refine Lq (Q_move rfl) ?_
   refine L_o rfl rfl rfl (O_call [0,2,1,3] [4] (fill_ok E d p S R K1 K2 A B e k hp hBl hw3 (by omega) (by omega) hu2 hk1 hk2) rfl rfl ?_)
   rintro _ _ ⟨S', R', K1', K2', A', e', B', hF, rfl, rfl⟩
   refine JL.norm ?_
   refine Lq (Q_assign rfl) ?_
   refine JL_nil ?_
   refine blockQ_normal ?_
   refine blockQ_normal ?_
   rw [← hF.fl] at hu2 hh2 hcl2
   obtain ⟨n1, n2, n3, n4, n5, n6, _⟩ := inner_miss (by simpa using hF.hA) hu2 hF.b hF.a
   have hlo := hF.low
   have hto := hF.top
   refine loopQ_normal (⟨d, e'.1, 4, e'.2, stars (parL p S' R' (K1' ++ K2') (pL A' ++ some e'.1 :: pL B') (A' ++ B') G)⟩, k) ⟨hF.he, fun _ => (by show 1 ≤ 4; decide), n1, by rw [← n6]; exact hh2, (plugX hF.hA hF.hB (by omega) (by omega) hF.hw n5).trans hcl2⟩ (Nat.lt_succ_self d) ⟨rfl, rfl, trivial⟩ Ent.downN
end Go.Proofs.Bt
/- A tree: a key taken away, its depth, a tree like it. -/
set_option autoImplicit false
namespace Go.Proofs.Bt
open Go.SL
theorem has_pos {l : List Kv} {k : Ky} (h : hasL l k = true) : 0 < l.length := by
 cases l with
 | nil => simp [hasL] at h
 | cons a l => exact Nat.succ_pos _
theorem flat_one {d : Nat} {e : T d} : flat (d + 1) ([], [e]) = flat d e := by simp [flat, ileave]
attribute [local irreducible] J JL QOp JOp seqQ blockQ loopQ retQ slc cel hex star pur stars Does RV Ent pAt scopeQ
attribute [local irreducible] nodeA nodeX treeA
theorem tdel_ok (E : World) (p : Nat) (l : List Kv) (k : Ky) (hl : l.length ≤ 1000000) : Does Tryz.prog E 162 [.pointer (some ⟨p, 0, none⟩), str k] [treeA p l] fun r L => r = .bool (hasL l k) ∧ L = [treeA p (delL l k)] := by
 refine Does.of Tryz.func162 rfl Tryz.ntmps162 rfl rfl fun F => ?_
 refine J.norm ?_
 refine Sr ?_
 refine Lq (Q_assign rfl) ?_
 refine Ln ?_
 refine J_seq ?_
 refine Sr ?_
 refine Lq (Q_move rfl) ?_
 refine Lq (Q_move rfl) ?_
 refine L_o rfl rfl rfl (O_call [0] [1] (tget_ok E p l k) rfl rfl ?_)
 rintro _ _ ⟨rfl, rfl⟩
 refine JL.norm ?_
 refine Lq (Q_move rfl) ?_
 refine Lq (Q_extract (v := str (getL l k)) rfl rfl) ?_
 refine Lq (Q_extract (v := .bool (hasL l k)) rfl rfl) ?_
 refine Lq (Q_assign rfl) ?_
 refine Lq (Q_assign rfl) ?_
 refine Ln ?_
 refine J_seq ?_
 refine J.tree fun r d t hu hw hf => ?_
 cases hb : hasL l k with
 | false =>
  refine J_region ?_
  refine Lq (Q_move rfl) ?_
  refine Lq ((Q_not rfl).as (v' := .bool true) rfl) ?_
  refine Ln ?_
  refine J_condT rfl ?_
  refine Sr ?_
  refine Lq (Q_assign rfl) ?_
  refine Ln ?_
  refine J_ret ?_
  refine seqQ_ret ?_
  refine retQ_ret _ [treeA p (delL l k)] (.cons (RV_tmp rfl) .nil) ⟨rfl, rfl⟩ ?_
  rw [del_not hu hb]
  exact (Ent.mkX hw hf).trans ((Ent.re [1,0,2] rfl).trans (Ent.tree hu))
 | true =>
  have hdl := del_len hu k
  rw [if_pos hb] at hdl
  have hpos := has_pos hb
  have hnd := ndel_ok E d r (min d 1) t k hw (fun h => by omega) (by rw [hf]; exact hu) (by rw [hf]; exact hb)
  rw [hf] at hnd
  refine J_region ?_
  refine Lq (Q_move rfl) ?_
  refine Lq ((Q_not rfl).as (v' := .bool false) rfl) ?_
  refine Ln ?_
  refine J_condF rfl ?_
  refine J_skip ?_
  refine seqQ_normal ?_
  refine Sr ?_
  refine Lq (Q_move rfl) ?_
  refine Lq (Q_nilCheck rfl) ?_
  refine Lq (Q_fa0 rfl) ?_
  refine Lq (Q_ld 1 rfl rfl rfl rfl) ?_
  refine Lq (Q_move rfl) ?_
  refine L_o rfl rfl rfl (O_call [0] [1,2] hnd rfl rfl ?_)
  rintro _ _ ⟨rfl, rfl⟩
  refine JL.norm ?_
  refine Ln ?_
  refine J_seq ?_
  refine J_seq ?_
  refine J.outX fun t2 hw2 hf2 => ?_
  refine J.cut0 (fun e ρ' L' => e = .normal ∧ ∃ (r3 d3 : Nat) (t3 : T d3), wf (min d3 1) d3 t3 ∧ flat d3 t3 = delL l k ∧ envSub [(0, .pointer (some ⟨p, 0, none⟩))] ρ' ∧ Ent L' [nodeA d3 r3 t3, trC p r3 l.length, F]) ?_ ?_
  ·cases d with
   | zero =>
    refine J.leaf fun S R => ?_
    by_cases h0 : (tks 0 t2).length = 0
    ·skip
     refine J_region ?_
     refine Lq (Q_move rfl) ?_
     refine Lq (Q_nilCheck rfl) ?_
     refine Lq (Q_fa0 rfl) ?_
     refine Lq (Q_ld 3 rfl rfl rfl rfl) ?_
     refine Lq (Q_nilCheck rfl) ?_
     refine Lq (Q_fa0 rfl) ?_
     refine Lq (Q_ld 0 rfl rfl rfl rfl) ?_
     refine Lq (Q_lenAt 1 rfl rfl) ?_
     refine Lq ((Q_eql rfl rfl).as (v' := .bool true) (congrArg Value.bool (decide_eq_true (by omega)))) ?_
     refine Lq (Q_move rfl) ?_
     refine Lq (Q_move rfl) ?_
     refine Lq (Q_nilCheck rfl) ?_
     refine Lq (Q_fa0 rfl) ?_
     refine Lq (Q_ld 3 rfl rfl rfl rfl) ?_
     refine L_o rfl rfl rfl (O_call [0,2] [1,3,4] (leaf_ok E r S R []) rfl rfl ?_)
     rintro _ _ ⟨rfl, rfl⟩
     refine JL.norm ?_
     refine Lq ((Q_not rfl).as (v' := .bool false) rfl) ?_
     refine Lq (Q_pickT rfl rfl) ?_
     refine Ln ?_
     refine J_condF rfl ?_
     refine J_skip ?_
     exact ⟨rfl, r, 0, t2, wf_mk hw2 (Nat.zero_le _), hf2, ⟨rfl, trivial⟩, (Ent.re [0,2,1,3,4] rfl).trans Ent.leafA⟩
    ·skip
     refine J_region ?_
     refine Lq (Q_move rfl) ?_
     refine Lq (Q_nilCheck rfl) ?_
     refine Lq (Q_fa0 rfl) ?_
     refine Lq (Q_ld 3 rfl rfl rfl rfl) ?_
     refine Lq (Q_nilCheck rfl) ?_
     refine Lq (Q_fa0 rfl) ?_
     refine Lq (Q_ld 0 rfl rfl rfl rfl) ?_
     refine Lq (Q_lenAt 1 rfl rfl) ?_
     refine Lq ((Q_eql rfl rfl).as (v' := .bool false) (congrArg Value.bool (decide_eq_false (by omega)))) ?_
     refine Lq (Q_move rfl) ?_
     refine L_n rfl rfl rfl ?_
     refine L_n rfl rfl rfl ?_
     refine L_n rfl rfl rfl ?_
     refine L_n rfl rfl rfl ?_
     refine L_n rfl rfl rfl ?_
     refine L_n rfl rfl rfl ?_
     refine Lq (Q_pickF rfl rfl) ?_
     refine Ln ?_
     refine J_condF rfl ?_
     refine J_skip ?_
     exact ⟨rfl, r, 0, t2, wf_mk hw2 (Nat.zero_le _), hf2, ⟨rfl, trivial⟩, Ent.leafA⟩
   | succ d =>
    obtain ⟨K, C⟩ := t2
    refine J.inner fun S R es hes => ?_
    obtain ⟨_, h7, hC, hwc⟩ := hw2
    dsimp only at hes h7 hC hwc ⊢
    subst hes
    rw [List.length_map] at hC
    have hm1 : min (d + 1) 1 = 1 := Nat.min_eq_right (by omega)
    by_cases h0 : K.length = 0
    ·have hlf := leaf_ok E r S R (pL es)
     rw [show decide (((pL es).length : Int) = 0) = false from decide_eq_false (by rw [pL_len]; omega)] at hlf
     obtain ⟨e, B, rfl⟩ := cons_of (l := es) (by omega)
     have hB : B = [] := List.eq_nil_of_length_eq_zero (by rw [List.length_cons] at hC; omega)
     subst hB
     have hK : K = [] := List.eq_nil_of_length_eq_zero h0
     subst hK
     have hPl : 0 < (pL (e :: [])).length := Nat.succ_pos _
     refine J_region ?_
     refine Lq (Q_move rfl) ?_
     refine Lq (Q_nilCheck rfl) ?_
     refine Lq (Q_fa0 rfl) ?_
     refine Lq (Q_ld 4 rfl rfl rfl rfl) ?_
     refine Lq (Q_nilCheck rfl) ?_
     refine Lq (Q_fa0 rfl) ?_
     refine Lq (Q_ld 0 rfl rfl rfl rfl) ?_
     refine Lq (Q_lenAt 1 rfl rfl) ?_
     refine Lq ((Q_eql rfl rfl).as (v' := .bool true) rfl) ?_
     refine Lq (Q_move rfl) ?_
     refine Lq (Q_move rfl) ?_
     refine Lq (Q_nilCheck rfl) ?_
     refine Lq (Q_fa0 rfl) ?_
     refine Lq (Q_ld 4 rfl rfl rfl rfl) ?_
     refine L_o rfl rfl rfl (O_call [0,2] [1,3,4,5] hlf rfl rfl ?_)
     rintro _ _ ⟨rfl, rfl⟩
     refine JL.norm ?_
     refine Lq ((Q_not rfl).as (v' := .bool true) rfl) ?_
     refine Lq (Q_pickT rfl rfl) ?_
     refine Ln ?_
     refine J_condT rfl ?_
     refine J_region ?_
     refine Lq (Q_move rfl) ?_
     refine Lq (Q_move rfl) ?_
     refine Lq (Q_nilCheck rfl) ?_
     refine Lq (Q_fa0 rfl) ?_
     refine Lq (Q_ld 4 rfl rfl rfl rfl) ?_
     refine Lq (Q_nilCheck rfl) ?_
     refine Lq (Q_fa0 rfl) ?_
     refine Lq (Q_ld 0 rfl rfl rfl rfl) ?_
     refine Lq (Q_ixAt 1 0 rfl rfl rfl rfl hPl rfl) ?_
     refine Lq (Q_ldEAt 1 0 0 (v := .pointer (some ⟨e.1, 0, none⟩)) rfl rfl rfl rfl hPl (by decide) rfl) ?_
     refine Lq (Q_nilCheck rfl) ?_
     refine Lq (Q_fa0 rfl) ?_
     refine L_s rfl rfl (O_st1 4 rfl rfl rfl rfl rfl ?_)
     refine JL.norm ?_
     refine JL_nil ?_
     refine ⟨rfl, e.1, d, e.2, wf_mk (hwc e.2 (by simp)) ?_, ?_, ⟨rfl, trivial⟩, ?_⟩
     ·have := (wf_ks (hwc e.2 (by simp))).1; omega
     ·rw [← hf2]; exact flat_one.symm
     ·exact (Ent.re [3,4,5] rfl).trans ((Ent.mid_out (ndE d) [] e []).trans (Ent.re [0,2,3] rfl))
    ·skip
     refine J_region ?_
     refine Lq (Q_move rfl) ?_
     refine Lq (Q_nilCheck rfl) ?_
     refine Lq (Q_fa0 rfl) ?_
     refine Lq (Q_ld 4 rfl rfl rfl rfl) ?_
     refine Lq (Q_nilCheck rfl) ?_
     refine Lq (Q_fa0 rfl) ?_
     refine Lq (Q_ld 0 rfl rfl rfl rfl) ?_
     refine Lq (Q_lenAt 1 rfl rfl) ?_
     refine Lq ((Q_eql rfl rfl).as (v' := .bool false) (congrArg Value.bool (decide_eq_false (by omega)))) ?_
     refine Lq (Q_move rfl) ?_
     refine L_n rfl rfl rfl ?_
     refine L_n rfl rfl rfl ?_
     refine L_n rfl rfl rfl ?_
     refine L_n rfl rfl rfl ?_
     refine L_n rfl rfl rfl ?_
     refine L_n rfl rfl rfl ?_
     refine Lq (Q_pickF rfl rfl) ?_
     refine Ln ?_
     refine J_condF rfl ?_
     refine J_skip ?_
     exact ⟨rfl, r, d + 1, (K, es.map (·.2)), ⟨by rw [hm1]; show 1 ≤ K.length; omega, h7, by simpa using hC, hwc⟩, hf2, ⟨rfl, trivial⟩, Ent.innerA rfl⟩
  rintro _ ρ' L' ⟨rfl, r3, d3, t3, hw3, hf3, hsub, hent⟩
  refine seqQ_normal ?_
  refine J.sub hsub ?_
  refine J.ent hent ?_
  refine Sr ?_
  refine Lq (Q_move rfl) ?_
  refine Lq (Q_nilCheck rfl) ?_
  refine Lq (Q_fa0 rfl) ?_
  refine Lq (Q_ld 1 rfl rfl rfl rfl) ?_
  refine Lq (Q_sub rfl rfl (by first | exact IntWalk.i64_in _ (by omega) | exact IntWalk.u8_in _ (by omega) | exact IntWalk.u32_in _ (by omega) | exact IntWalk.u64_in _ (by omega) | rfl)) ?_
  refine Lq (Q_nilCheck rfl) ?_
  refine Lq (Q_fa0 rfl) ?_
  refine L_s rfl rfl (O_st1 1 rfl rfl rfl rfl rfl ?_)
  refine JL.norm ?_
  refine Ln ?_
  refine Sr ?_
  refine Lq (Q_assign rfl) ?_
  refine Ln ?_
  refine J_ret ?_
  exact retQ_ret _ [treeA p (delL l k)] (.cons (RV_tmp rfl) .nil) ⟨rfl, rfl⟩ ((Ent.mkX hw3 hf3).trans ((Ent.re [1,0,2] rfl).trans (Ent.treeN (up_del hu k) (by rw [hdl]; omega))))
end Go.Proofs.Bt
/- A tree like another. -/
set_option autoImplicit false
namespace Go.Proofs.Bt
open Go.SL
attribute [local irreducible] J JL QOp JOp seqQ blockQ loopQ retQ slc cel hex star pur stars Does RV Ent pAt scopeQ
attribute [local irreducible] nodeA nodeX treeA
end Go.Proofs.Bt
/- The pairs gone over, from a key on. -/
set_option autoImplicit false
namespace Go.Proofs.Bt
open Go.SL
attribute [local irreducible] J JL QOp JOp seqQ blockQ loopQ retQ slc cel hex star pur stars Does RV Ent pAt scopeQ
attribute [local irreducible] nodeA nodeX treeA
end Go.Proofs.Bt
/- The pairs gone over; a range. -/
set_option autoImplicit false
namespace Go.Proofs.Bt
open Go.SL
attribute [local irreducible] J JL QOp JOp seqQ blockQ loopQ retQ slc cel hex star pur stars Does RV Ent pAt scopeQ
attribute [local irreducible] nodeA nodeX treeA
end Go.Proofs.Bt
/- Is a tree one? -/
set_option autoImplicit false
namespace Go.SL
theorem J.cutB {P : Program} {E : World} {n id : Nat} {c : Code} {Q : Post} {ρ : Env} {L : List HProp} (M : Post) (h : J P E n c (blockQ id M) ρ L) (hq : ∀ e ρ L, M e ρ L → Q e ρ L) : J P E n c (blockQ id Q) ρ L := h.mono (blockQ_mono hq)
end Go.SL
namespace Go.Proofs.Bt
open Go.SL
theorem Does.post {P : Program} {E : World} {f : Nat} {args : List Value} {pre pre' : List HProp} {K K2 : Value → List HProp → Prop} (h : Does P E f args pre K) (hp : ∀ F, Ent (pre' ++ [F]) (pre ++ [F])) (hk : ∀ v L, K v L → ∃ L2, K2 v L2 ∧ ∀ F, Ent (L ++ [F]) (L2 ++ [F])) : Does P E f args pre' K2 := fun F w hs =>
 (h F w (hp F E w hs)).mono fun _ _ ⟨v, L', he, hK, hs'⟩ =>
  have ⟨L2, h1, h2⟩ := hk v L' hK
  ⟨v, L2, he, h1, h2 F E _ hs'⟩
theorem Does.leaf {P : Program} {E : World} {f : Nat} {args : List Value} {p : Nat} {t : T 0} {L : List HProp} {K : Value → List HProp → Prop} (h : ∀ S R, Does P E f args (ndC p S R :: slc tKv true S (tks 0 t) :: slc tNd true R [] :: L) K) : Does P E f args (nodeA 0 p t :: L) K := fun F w hs =>
 have ⟨g, hg⟩ := Sat.leaf_out (L := L ++ [F]) hs
 h g.1 g.2 F w hg
theorem Does.inner {P : Program} {E : World} {f : Nat} {args : List Value} {d p : Nat} {t : T (d + 1)} {L : List HProp} {K : Value → List HProp → Prop} (h : ∀ (S R : SV) (es : List (Nat × T d)), es.map (·.2) = t.2 → Does P E f args (ndC p S R :: slc tKv true S t.1 :: slc tNd true R (es.map fun e => some e.1) :: stars (es.map (ndE d)) :: L) K) : Does P E f args (nodeA (d + 1) p t :: L) K := fun F w hs =>
 have ⟨g, hg⟩ := Sat.inner_out (L := L ++ [F]) hs
 h g.1.1 g.1.2.1 g.1.2.2 g.2 F w hg
/-- A bound: none, or the key of a pair of a node above. -/
abbrev Lim : Type := Option (SV × List Kv × Kv × List Kv)
def LimOk (E : World) (C : HProp) : Lim → Prop
 | none => True
 | some (S, A, x, B) => ∀ (w : World) (L : List HProp), Sat E w (C :: L) → Rd tKv w S (A ++ x :: B)
abbrev dep (d : Nat) : Nat → Int
 | 0 => 0
 | _ + 1 => (((d + 1 : Nat)) : Int)
theorem Ent.star_in {A B : HProp} {L : List HProp} : Ent (A :: B :: L) (star A B :: L) := fun _ _ h => Sat.mkstar h
theorem LimOk.own {E : World} {C : HProp} {S : SV} {A B : List Kv} {x : Kv} : LimOk E (star C (slc tKv true S (A ++ x :: B))) (some (S, A, x, B)) := fun w L hs => by
 have h1 := hs.star
 have h2 : Sat E w (slc tKv true S (A ++ x :: B) :: C :: L) := Sat.swap2 h1
 exact h2.rd 0 rfl
attribute [local irreducible] J JL QOp JOp seqQ blockQ loopQ retQ slc cel hex star pur stars Does RV Ent pAt scopeQ
attribute [local irreducible] nodeA nodeX treeA
end Go.Proofs.Bt
/- Words and votes, where one node is all: a quorum is one. -/
set_option autoImplicit false
namespace Go.Proofs
open Go.SL Go.Proofs.Bt
structure Wd where
 kind : Int
 from' : Int
 round : Int
 valid : Int
 value : Ky
abbrev wdV (w : Wd) : List Value := [.int .i64 w.kind, .int .i64 w.from', .int .i64 w.round, .int .i64 w.valid, str w.value]
def tWd : Ty Wd := ⟨59, 5, wdV, fun _ => rfl, by decide, fun a v hv => by simp [wdV] at hv; rcases hv with rfl | rfl | rfl | rfl | rfl <;> rfl⟩
instance : TyI Tryz.prog tWd.e 5 (.agg #[.int .i64 0, .int .i64 0, .int .i64 0, .int .i64 0, .string ⟨#[]⟩]) 48 := inferInstanceAs (TyI Tryz.prog 59 5 (.agg #[.int .i64 0, .int .i64 0, .int .i64 0, .int .i64 0, .string ⟨#[]⟩]) 48)
instance : TyU Tryz.prog 124 (.slice tWd.e) := inferInstanceAs (TyU Tryz.prog 124 (.slice 59))
/-- A vote of the one node in round 0. -/
abbrev vote0 (k : Int) (v : Ky) : Wd := ⟨k, 1, 0, 0, v⟩
abbrev votC (p : Nat) (X : Value) : HProp := cel p [.int .i64 1, .int .i64 0, X] 179
def votA (p : Nat) (l : List Wd) : HProp := hex fun S : SV => stars [votC p S.v, slc tWd true S l]
theorem Ent.vot {p : Nat} {S : SV} {l : List Wd} {L : List HProp} : Ent (votC p S.v :: slc tWd true S l :: L) (votA p l :: L) := fun E w h => by
 have h1 := Sat.rot (A := [votC p S.v, slc tWd true S l]) (B := L) h
 have h4 : Sat E w (stars [votC p S.v, slc tWd true S l] :: L) := Sat.rot (A := L) h1.fold
 exact h4.mkex (f := fun S : SV => stars [votC p S.v, slc tWd true S l]) S
theorem Does.vot {P : Program} {E : World} {f : Nat} {args : List Value} {p : Nat} {l : List Wd} {L : List HProp} {K : Value → List HProp → Prop} (h : ∀ S : SV, Does P E f args (votC p S.v :: slc tWd true S l :: L) K) : Does P E f args (votA p l :: L) K := fun F w hs => by
 obtain ⟨q, hq⟩ := Sat.ex (f := fun S : SV => stars [votC p S.v, slc tWd true S l]) (R := L ++ [F]) hs
 exact h q F w (Sat.rot (A := L ++ [F]) (hq.rot (A := [_]) (B := L ++ [F])).unfold)
attribute [local irreducible] J JL QOp JOp seqQ blockQ loopQ retQ slc cel hex star pur stars Does RV Ent pAt scopeQ
theorem quorum_ok (E : World) : Does Tryz.prog E 84 [.int .i64 1, .int .i64 0] [] fun v L => v = .int .i64 1 ∧ L = [] := by
 refine Does.of Tryz.func84 rfl Tryz.ntmps84 rfl rfl fun F => ?_
 refine J.norm ?_
 refine Sr ?_
 refine Lq (Q_assign rfl) ?_
 refine Ln ?_
 refine J_seq ?_
 refine Sr ?_
 refine Lq (Q_move rfl) ?_
 refine Lq ((Q_lss rfl rfl).as (v' := .bool false) rfl) ?_
 refine Lq (Q_move rfl) ?_
 refine Lq (Q_move rfl) ?_
 refine Lq ((Q_gtr rfl rfl).as (v' := .bool false) rfl) ?_
 refine Lq (Q_pickF rfl rfl) ?_
 refine Lq (Q_move rfl) ?_
 refine Lq (Q_move rfl) ?_
 refine Lq (Q_move rfl) ?_
 refine Lq (Q_mul (r := 0) rfl rfl rfl) ?_
 refine Lq (Q_add (r := 1) rfl rfl rfl) ?_
 refine Lq ((Q_lss rfl rfl).as (v' := .bool false) rfl) ?_
 refine Lq (Q_pickF rfl rfl) ?_
 refine Lq (Q_move rfl) ?_
 refine Lq (Q_move rfl) ?_
 refine Lq ((Q_gtr rfl rfl).as (v' := .bool false) rfl) ?_
 refine Lq (Q_pickF rfl rfl) ?_
 refine Ln ?_
 refine J_condF rfl ?_
 refine J_skip ?_
 refine seqQ_normal ?_
 refine Sr ?_
 refine Lq (Q_move rfl) ?_
 refine Lq (Q_move rfl) ?_
 refine Lq (Q_add (r := 1) rfl rfl rfl) ?_
 refine Lq (Q_quo (r := 0) rfl rfl (by decide) rfl) ?_
 refine Lq (Q_add (r := 1) rfl rfl rfl) ?_
 refine Lq (Q_assign rfl) ?_
 refine Ln ?_
 refine J_ret ?_
 exact retQ_ret _ [] (.cons (RV_tmp rfl) .nil) ⟨rfl, rfl⟩ (Ent.refl _)
theorem vnew_ok (E : World) : Does Tryz.prog E 57 [.int .i64 1, .int .i64 0] [] fun v L => ∃ p : Nat, v = .pointer (some ⟨p, 0, none⟩) ∧ L = [votA p []] := by
 refine Does.of Tryz.func57 rfl Tryz.ntmps57 rfl rfl fun F => ?_
 refine J.norm ?_
 refine Sr ?_
 refine Lq (Q_assign rfl) ?_
 refine Ln ?_
 refine J_seq ?_
 refine Sr ?_
 refine Lq (Q_move rfl) ?_
 refine Lq (Q_move rfl) ?_
 refine L_o rfl rfl rfl (O_call [] [0] (quorum_ok E) rfl rfl ?_)
 rintro _ _ ⟨rfl, rfl⟩
 refine JL.norm ?_
 refine Lq ((Q_eql rfl rfl).as (v' := .bool false) rfl) ?_
 refine Ln ?_
 refine J_condF rfl ?_
 refine J_skip ?_
 refine seqQ_normal ?_
 refine Sr ?_
 refine Lq (Q_move rfl) ?_
 refine Lq (Q_move rfl) ?_
 refine Lq (Q_build rfl) ?_
 refine L_o rfl rfl rfl (O_box rfl fun b12 => ?_)
 refine Lq (Q_assign rfl) ?_
 refine Ln ?_
 refine J_ret ?_
 refine retQ_ret _ [votA b12 []] (.cons (RV_tmp rfl) .nil) ⟨b12, rfl, rfl⟩ ?_
 exact (Ent.mk fun _ _ h => (h.lay_nil tWd true : Sat _ _ (slc tWd true SV.nil [] :: _))).trans ((Ent.re [1,0,2] rfl).trans (Ent.vot (S := SV.nil)))
theorem vmay_ok (E : World) (p : Nat) (X : Value) (k : Int) (v : Ky) (hk : k = 2 ∨ k = 3) (hv : v.length ≤ 4096) : Does Tryz.prog E 133 [.pointer (some ⟨p, 0, none⟩), .agg (wdV (vote0 k v)).toArray] [votC p X] fun r L => r = .bool true ∧ L = [votC p X] := by
 rcases hk with rfl | rfl
 ·refine Does.of Tryz.func133 rfl Tryz.ntmps133 rfl rfl fun F => ?_
  refine J.norm ?_
  refine Sr ?_
  refine L_o rfl rfl rfl (O_box rfl fun b3 => ?_)
  refine Lq (Q_assign rfl) ?_
  refine Ln ?_
  refine Sr ?_
  refine Lq (Q_fa0 rfl) ?_
  refine Lq (Q_ld 0 rfl rfl rfl rfl) ?_
  refine Lq ((Q_eql rfl rfl).as (v' := .bool true) rfl) ?_
  refine Lq (Q_move rfl) ?_
  refine L_n rfl rfl rfl ?_
  refine L_n rfl rfl rfl ?_
  refine L_n rfl rfl rfl ?_
  refine Lq (Q_pickT rfl rfl) ?_
  refine Lq (Q_assign rfl) ?_
  refine Ln ?_
  refine J_seq ?_
  refine DL [0,1,2,3,4,5,6,7,8,9,10,11,12,13,14,15,16,17,18,19,20,21,22,23,24,25,26,27,28,29,30,31] (.quiet 0 (.quiet 1 (.quiet 2 (.quiet 3 (.quiet 4 (.quiet 5 (.quiet 6 (.quiet 7 (.quiet 8 (.quiet 9 (.quiet 10 (.quiet 11 (.quiet 12 (.quiet 13 (.quiet 14 (.quiet 15 (.quiet 16 (.quiet 17 (.quiet 18 (.quiet 19 (.quiet 20 (.quiet 21 (.quiet 22 (.quiet 23 (.quiet 24 (.quiet 25 (.quiet 26 (.quiet 27 (.quiet 28 (.quiet 29 (.quiet 30 (.quiet 31 .done)))))))))))))))))))))))))))))))) Tryz.mixed ?_
  refine Sq (Ent.refl _) rfl (Q_move rfl) ?_
  refine Sq (Ent.refl _) rfl (Q_move rfl) ?_
  refine Sq (Ent.refl _) rfl (Q_fa0 rfl) ?_
  refine Sq (Ent.refl _) rfl (Q_ld 0 rfl rfl rfl rfl) ?_
  refine Sq (Ent.refl _) rfl ((Q_geq rfl rfl).as (v' := .bool true) rfl) ?_
  refine Sq (Ent.refl _) rfl (Q_pickT rfl rfl) ?_
  refine Sq (Ent.refl _) rfl (Q_move rfl) ?_
  refine Sq (Ent.refl _) rfl (Q_fa0 rfl) ?_
  refine Sq (Ent.refl _) rfl (Q_ld 0 rfl rfl rfl rfl) ?_
  refine Sq (Ent.refl _) rfl (Q_move rfl) ?_
  refine Sq (Ent.refl _) rfl (Q_nilCheck rfl) ?_
  refine Sq (Ent.refl _) rfl (Q_fa0 rfl) ?_
  refine Sq (Ent.refl _) rfl (Q_ld 1 rfl rfl rfl rfl) ?_
  refine Sq (Ent.refl _) rfl ((Q_leq rfl rfl).as (v' := .bool true) rfl) ?_
  refine Sq (Ent.refl _) rfl (Q_pickT rfl rfl) ?_
  refine Sq (Ent.refl _) rfl (Q_move rfl) ?_
  refine Sq (Ent.refl _) rfl (Q_fa0 rfl) ?_
  refine Sq (Ent.refl _) rfl (Q_ld 0 rfl rfl rfl rfl) ?_
  refine Sq (Ent.refl _) rfl ((Q_geq rfl rfl).as (v' := .bool true) rfl) ?_
  refine Sq (Ent.refl _) rfl (Q_pickT rfl rfl) ?_
  refine Sq (Ent.refl _) rfl (Q_move rfl) ?_
  refine Sq (Ent.refl _) rfl (Q_fa0 rfl) ?_
  refine Sq (Ent.refl _) rfl (Q_ld 0 rfl rfl rfl rfl) ?_
  refine Sq (Ent.refl _) rfl ((Q_lss rfl rfl).as (v' := .bool true) rfl) ?_
  refine Sq (Ent.refl _) rfl (Q_pickT rfl rfl) ?_
  refine Sq (Ent.refl _) rfl (Q_move rfl) ?_
  refine Sq (Ent.refl _) rfl (Q_fa0 rfl) ?_
  refine Sq (Ent.refl _) rfl (Q_ld 0 rfl rfl rfl rfl) ?_
  refine Sq (Ent.refl _) rfl (Q_slen rfl) ?_
  refine Sq (Ent.refl _) rfl ((Q_leq rfl rfl).as (v' := .bool true) (congrArg Value.bool (decide_eq_true (by show (v.length : Int) ≤ 4096; omega)))) ?_
  refine Sq (Ent.refl _) rfl (Q_pickT rfl rfl) ?_
  refine Sq (Ent.refl _) rfl (Q_assign rfl) ?_
  refine S_nil ?_
  refine seqQ_normal ?_
  refine J_ret ?_
  exact retQ_ret _ [votC p X] (.cons (RV_tmp rfl) .nil) ⟨rfl, rfl⟩ (Ent.re [1,2] rfl)
 ·refine Does.of Tryz.func133 rfl Tryz.ntmps133 rfl rfl fun F => ?_
  refine J.norm ?_
  refine Sr ?_
  refine L_o rfl rfl rfl (O_box rfl fun b3 => ?_)
  refine Lq (Q_assign rfl) ?_
  refine Ln ?_
  refine Sr ?_
  refine Lq (Q_fa0 rfl) ?_
  refine Lq (Q_ld 0 rfl rfl rfl rfl) ?_
  refine Lq ((Q_eql rfl rfl).as (v' := .bool false) rfl) ?_
  refine Lq (Q_move rfl) ?_
  refine Lq (Q_fa0 rfl) ?_
  refine Lq (Q_ld 0 rfl rfl rfl rfl) ?_
  refine Lq ((Q_eql rfl rfl).as (v' := .bool true) rfl) ?_
  refine Lq (Q_pickF rfl rfl) ?_
  refine Lq (Q_assign rfl) ?_
  refine Ln ?_
  refine J_seq ?_
  refine DL [0,1,2,3,4,5,6,7,8,9,10,11,12,13,14,15,16,17,18,19,20,21,22,23,24,25,26,27,28,29,30,31] (.quiet 0 (.quiet 1 (.quiet 2 (.quiet 3 (.quiet 4 (.quiet 5 (.quiet 6 (.quiet 7 (.quiet 8 (.quiet 9 (.quiet 10 (.quiet 11 (.quiet 12 (.quiet 13 (.quiet 14 (.quiet 15 (.quiet 16 (.quiet 17 (.quiet 18 (.quiet 19 (.quiet 20 (.quiet 21 (.quiet 22 (.quiet 23 (.quiet 24 (.quiet 25 (.quiet 26 (.quiet 27 (.quiet 28 (.quiet 29 (.quiet 30 (.quiet 31 .done)))))))))))))))))))))))))))))))) Tryz.mixed ?_
  refine Sq (Ent.refl _) rfl (Q_move rfl) ?_
  refine Sq (Ent.refl _) rfl (Q_move rfl) ?_
  refine Sq (Ent.refl _) rfl (Q_fa0 rfl) ?_
  refine Sq (Ent.refl _) rfl (Q_ld 0 rfl rfl rfl rfl) ?_
  refine Sq (Ent.refl _) rfl ((Q_geq rfl rfl).as (v' := .bool true) rfl) ?_
  refine Sq (Ent.refl _) rfl (Q_pickT rfl rfl) ?_
  refine Sq (Ent.refl _) rfl (Q_move rfl) ?_
  refine Sq (Ent.refl _) rfl (Q_fa0 rfl) ?_
  refine Sq (Ent.refl _) rfl (Q_ld 0 rfl rfl rfl rfl) ?_
  refine Sq (Ent.refl _) rfl (Q_move rfl) ?_
  refine Sq (Ent.refl _) rfl (Q_nilCheck rfl) ?_
  refine Sq (Ent.refl _) rfl (Q_fa0 rfl) ?_
  refine Sq (Ent.refl _) rfl (Q_ld 1 rfl rfl rfl rfl) ?_
  refine Sq (Ent.refl _) rfl ((Q_leq rfl rfl).as (v' := .bool true) rfl) ?_
  refine Sq (Ent.refl _) rfl (Q_pickT rfl rfl) ?_
  refine Sq (Ent.refl _) rfl (Q_move rfl) ?_
  refine Sq (Ent.refl _) rfl (Q_fa0 rfl) ?_
  refine Sq (Ent.refl _) rfl (Q_ld 0 rfl rfl rfl rfl) ?_
  refine Sq (Ent.refl _) rfl ((Q_geq rfl rfl).as (v' := .bool true) rfl) ?_
  refine Sq (Ent.refl _) rfl (Q_pickT rfl rfl) ?_
  refine Sq (Ent.refl _) rfl (Q_move rfl) ?_
  refine Sq (Ent.refl _) rfl (Q_fa0 rfl) ?_
  refine Sq (Ent.refl _) rfl (Q_ld 0 rfl rfl rfl rfl) ?_
  refine Sq (Ent.refl _) rfl ((Q_lss rfl rfl).as (v' := .bool true) rfl) ?_
  refine Sq (Ent.refl _) rfl (Q_pickT rfl rfl) ?_
  refine Sq (Ent.refl _) rfl (Q_move rfl) ?_
  refine Sq (Ent.refl _) rfl (Q_fa0 rfl) ?_
  refine Sq (Ent.refl _) rfl (Q_ld 0 rfl rfl rfl rfl) ?_
  refine Sq (Ent.refl _) rfl (Q_slen rfl) ?_
  refine Sq (Ent.refl _) rfl ((Q_leq rfl rfl).as (v' := .bool true) (congrArg Value.bool (decide_eq_true (by show (v.length : Int) ≤ 4096; omega)))) ?_
  refine Sq (Ent.refl _) rfl (Q_pickT rfl rfl) ?_
  refine Sq (Ent.refl _) rfl (Q_assign rfl) ?_
  refine S_nil ?_
  refine seqQ_normal ?_
  refine J_ret ?_
  exact retQ_ret _ [votC p X] (.cons (RV_tmp rfl) .nil) ⟨rfl, rfl⟩ (Ent.re [1,2] rfl)
end Go.Proofs
/- Votes put, counted. -/
set_option autoImplicit false
namespace Go.Proofs
open Go.SL Go.Proofs.Bt
/-- How many of them are of a kind. -/
def cntK (l : List Wd) (k : Int) : Nat := (l.filter fun w => decide (w.kind = k)).length
theorem cnt_take {l : List Wd} {k : Int} {i : Nat} (h : i < l.length) : cntK (l.take (i + 1)) k = cntK (l.take i) k + if l[i].kind = k then 1 else 0 := by
 unfold cntK
 rw [List.take_succ_eq_append_getElem h, List.filter_append, List.length_append]
 congr 1
 by_cases e : l[i].kind = k <;> simp [e]
theorem cnt_le (l : List Wd) (k : Int) (i : Nat) : cntK (l.take i) k ≤ cntK l k := by
 unfold cntK
 exact ((List.take_sublist i l).filter _).length_le
/-- Votes of the one node in round 0, all for v. -/
structure Vots (l : List Wd) (v : Ky) : Prop where
 all : ∀ w ∈ l, w.from' = 1 ∧ w.round = 0 ∧ w.value = v
 len : l.length ≤ 100
theorem Vots.at {l : List Wd} {v : Ky} (h : Vots l v) {i : Nat} (hi : i < l.length) : l[i].from' = 1 ∧ l[i].round = 0 ∧ l[i].value = v := h.all _ (List.getElem_mem hi)
attribute [local irreducible] J JL QOp JOp seqQ blockQ loopQ retQ slc cel hex star pur stars Does RV Ent pAt scopeQ
attribute [local irreducible] votA
theorem vput_ok (E : World) (p : Nat) (l : List Wd) (k : Int) (v : Ky) (hk : k = 2 ∨ k = 3) (hv : v.length ≤ 4096) (hl : ∀ w ∈ l, w.kind ≠ k) (hn : l.length ≤ 100) : Does Tryz.prog E 121 [.pointer (some ⟨p, 0, none⟩), .agg (wdV (vote0 k v)).toArray] [votA p l] fun r L => r = .bool true ∧ L = [votA p (l ++ [vote0 k v])] := by
 refine Does.vot fun S => ?_
 refine Does.post (K := fun r L => ∃ S' : SV, r = .bool true ∧ L = [votC p S'.v, slc tWd true S' (l ++ [vote0 k v])]) (pre := [votC p S.v, slc tWd true S l]) ?_ (fun F => Ent.refl _) (by rintro r L ⟨S', hr, rfl⟩; exact ⟨_, ⟨hr, rfl⟩, fun F => Ent.vot⟩)
 refine Does.of Tryz.func121 rfl Tryz.ntmps121 rfl rfl fun F => ?_
 refine J.norm ?_
 refine Sr ?_
 refine L_o rfl rfl rfl (O_box rfl fun b3 => ?_)
 refine Lq (Q_assign rfl) ?_
 refine Ln ?_
 refine J_seq ?_
 refine Sr ?_
 refine Lq (Q_move rfl) ?_
 refine Lq ((Q_peql rfl rfl).as (v' := .bool false) rfl) ?_
 refine Lq (Q_move rfl) ?_
 refine Lq (Q_move rfl) ?_
 refine Lq (Q_ldA 0 rfl rfl rfl) ?_
 refine L_o rfl rfl rfl (O_call [1] [0,2,3] (vmay_ok E p S.v k v hk hv) rfl rfl ?_)
 rintro _ _ ⟨rfl, rfl⟩
 refine JL.norm ?_
 refine Lq ((Q_not rfl).as (v' := .bool false) rfl) ?_
 refine Lq (Q_pickF rfl rfl) ?_
 refine Ln ?_
 refine J_condF rfl ?_
 refine J_skip ?_
 refine seqQ_normal ?_
 refine J_seq ?_
 refine Sr ?_
 refine Lq (Q_move rfl) ?_
 refine Lq (Q_nilCheck rfl) ?_
 refine Lq (Q_fa0 rfl) ?_
 refine Lq (Q_ld 0 rfl rfl rfl rfl) ?_
 refine Lq (Q_lenAt 2 rfl rfl) ?_
 refine Lq (Q_move rfl) ?_
 refine Ln ?_
 refine J_block ?_
 refine J_loop (fun i : Nat => i ≤ l.length) (fun i => [(0, .pointer (some ⟨p, 0, none⟩)), (3, .pointer (some ⟨b3, 0, none⟩)), (18, S.v), (19, .int .i64 (l.length : Int)), (20, .int .i64 (i : Int))]) (fun _ => [votC p S.v, cel b3 (wdV (vote0 k v)) 59, slc tWd true S l, F]) (fun i => l.length - i) 0 (Nat.zero_le _) ⟨rfl, rfl, rfl, rfl, rfl, trivial⟩ (Ent.refl _) ?_
 intro i hi
 refine Sr ?_
 refine Lq (Q_lss rfl rfl) ?_
 refine Ln ?_
 refine J_seq ?_
 refine J_condD rfl (fun h2 => ?_) (fun h2 => ?_)
 ·have hlt : i < l.length := by omega
  have hne := hl l[i] (List.getElem_mem hlt)
  refine J_skip ?_
  refine seqQ_normal ?_
  refine J_seq ?_
  refine J_block ?_
  refine Sr ?_
  refine Lq (Q_ixAt 2 i rfl rfl rfl rfl hlt rfl) ?_
  refine Lq (Q_ldEAAt 2 i 0 (vs := wdV l[i]) rfl rfl rfl rfl hlt (by decide) rfl) ?_
  refine L_o rfl rfl rfl (O_alloc fun b6 => ?_)
  refine L_s rfl rfl (O_stW 0 rfl rfl rfl rfl ?_)
  refine JL.norm ?_
  refine Ln ?_
  refine Sr ?_
  refine Lq (Q_fa0 rfl) ?_
  refine Lq (Q_ld 0 rfl rfl rfl rfl) ?_
  refine Lq (Q_fa0 rfl) ?_
  refine Lq (Q_ld 2 rfl rfl rfl rfl) ?_
  refine Lq ((Q_eql rfl rfl).as (v' := .bool false) (congrArg Value.bool (decide_eq_false hne))) ?_
  refine Lq (Q_move rfl) ?_
  refine L_n rfl rfl rfl ?_
  refine L_n rfl rfl rfl ?_
  refine L_n rfl rfl rfl ?_
  refine L_n rfl rfl rfl ?_
  refine L_n rfl rfl rfl ?_
  refine Lq (Q_pickF rfl rfl) ?_
  refine Lq (Q_move rfl) ?_
  refine L_n rfl rfl rfl ?_
  refine L_n rfl rfl rfl ?_
  refine L_n rfl rfl rfl ?_
  refine L_n rfl rfl rfl ?_
  refine L_n rfl rfl rfl ?_
  refine Lq (Q_pickF rfl rfl) ?_
  refine Ln ?_
  refine J_condF rfl ?_
  refine J_skip ?_
  refine blockQ_normal ?_
  refine seqQ_normal ?_
  refine J_region ?_
  refine Lq (Q_add rfl rfl (by first | exact IntWalk.i64_in _ (by omega) | exact IntWalk.u8_in _ (by omega) | exact IntWalk.u32_in _ (by omega) | exact IntWalk.u64_in _ (by omega) | rfl)) ?_
  refine Lq (Q_move rfl) ?_
  refine JL_nil ?_
  exact loopQ_normal (i + 1) hlt (by show l.length - (i + 1) < l.length - i; omega) ⟨rfl, rfl, rfl, rfl, rfl, trivial⟩ (Ent.re [1,2,3,4] rfl)
 ·refine J_exit ?_
  refine seqQ_exit ?_
  refine loopQ_exit ?_
  refine blockQ_hit ?_
  refine seqQ_normal ?_
  refine J_seq ?_
  refine DH [0,1] [0,1,2,3,4,5,8,9] (.quiet 0 (.quiet 1 (.quiet 2 (.quiet 3 (.quiet 4 (.quiet 5 (.loud 6 (.loud 7 (.quiet 8 (.quiet 9 (.loud 10 .done))))))))))) Tryz.mixed ?_
  refine Sq (Ent.re [0,1] rfl) rfl (Q_move rfl) ?_
  refine Sq (Ent.re [0,1] rfl) rfl (Q_move rfl) ?_
  refine Sq (Ent.re [0,1] rfl) rfl (Q_nilCheck rfl) ?_
  refine Sq (Ent.re [0,1] rfl) rfl (Q_fa0 rfl) ?_
  refine Sq (Ent.re [0,1] rfl) rfl (Q_ld 0 rfl rfl rfl rfl) ?_
  refine Sq (Ent.re [0,1] rfl) rfl (Q_ldA 1 rfl rfl rfl) ?_
  refine S_o rfl rfl rfl rfl (O_litP (τ := tWd) (m := 1) (sz := 5) [vote0 k v] rfl rfl rfl rfl rfl rfl (by decide) (fun U => ⟨_, fun _ => ⟨Ent.reN [1,2] rfl, Ent.refl _⟩, ?_⟩))
  refine JS.norm ?_
  refine S_o rfl rfl rfl rfl (O_app (τ := tWd) 3 rfl (fun w h => h.rd 0 rfl) rfl rfl rfl rfl (by simp only [List.length_singleton]; omega) (by decide) (fun S2 => ⟨_, fun _ => ⟨Ent.reN [1,2] rfl, Ent.refl _⟩, ?_⟩))
  refine JS.norm ?_
  refine Sq (Ent.re [1,2] rfl) rfl (Q_nilCheck rfl) ?_
  refine Sq (Ent.re [1,2] rfl) rfl (Q_fa0 rfl) ?_
  refine S_s rfl rfl rfl (O_st1 1 rfl rfl rfl rfl rfl ⟨[], free_no (by kernel_rfl), ?_⟩)
  refine JS.norm ?_
  refine S_nil ?_
  refine seqQ_normal ?_
  refine Sr ?_
  refine Lq (Q_assign rfl) ?_
  refine Ln ?_
  refine J_ret ?_
  exact retQ_ret _ [votC p S2.v, slc tWd true S2 (l ++ [vote0 k v])] (.cons (RV_tmp rfl) .nil) ⟨S2, rfl, rfl⟩ (Ent.re [1,3,4] rfl)
theorem vtally_ok (E : World) (p : Nat) (X : Value) (S : SV) (hX : X = S.v) (l : List Wd) (k : Int) (v : Ky) (hV : Vots l v) (hc : cntK l k ≤ 1) : Does Tryz.prog E 140 [.pointer (some ⟨p, 0, none⟩), .int .i64 k, .int .i64 0, str v] [votC p X, slc tWd true S l] fun r L => r = .complex .f64 (fl01 (cntK l k)) 0 ∧ L = [votC p X, slc tWd true S l] := by
 subst hX
 have hn := hV.len
 refine Does.of Tryz.func140 rfl Tryz.ntmps140 rfl rfl fun F => ?_
 refine J.norm ?_
 refine Sr ?_
 refine Lq (Q_assign rfl) ?_
 refine Ln ?_
 refine Sr ?_
 refine Lq (Q_assign rfl) ?_
 refine Ln ?_
 refine J_seq ?_
 refine Sr ?_
 refine Lq (Q_move rfl) ?_
 refine Lq ((Q_peql rfl rfl).as (v' := .bool false) rfl) ?_
 refine Ln ?_
 refine J_condF rfl ?_
 refine J_skip ?_
 refine seqQ_normal ?_
 refine J_seq ?_
 refine Sr ?_
 refine Lq (Q_move rfl) ?_
 refine Lq (Q_nilCheck rfl) ?_
 refine Lq (Q_fa0 rfl) ?_
 refine Lq (Q_ld 0 rfl rfl rfl rfl) ?_
 refine Lq (Q_lenAt 1 rfl rfl) ?_
 refine Lq (Q_move rfl) ?_
 refine Ln ?_
 refine J_block ?_
 refine J_loop (fun i : Nat => i ≤ l.length) (fun i => [(1, .int .i64 k), (2, .int .i64 0), (3, str v), (9, .complex .f64 (fl01 (cntK (l.take i) k)) 0), (18, S.v), (19, .int .i64 (l.length : Int)), (20, .int .i64 (i : Int))]) (fun _ => [votC p S.v, slc tWd true S l, F]) (fun i => l.length - i) 0 (Nat.zero_le _) ⟨rfl, rfl, rfl, rfl, rfl, rfl, rfl, trivial⟩ (Ent.refl _) ?_
 intro i hi
 refine Sr ?_
 refine Lq (Q_lss rfl rfl) ?_
 refine Ln ?_
 refine J_seq ?_
 refine J_condD rfl (fun h2 => ?_) (fun h2 => ?_)
 ·have hlt : i < l.length := by omega
  obtain ⟨h3, h4, h5⟩ := hV.at hlt
  have ht := cnt_take (k := k) hlt
  have hle := cnt_le l k (i + 1)
  by_cases e : l[i].kind = k
  ·rw [if_pos e] at ht
   have e0 : cntK (l.take i) k = 0 := by omega
   have e1 : cntK (l.take (i + 1)) k = 1 := by omega
   rw [e0]
   refine J_skip ?_
   refine seqQ_normal ?_
   refine J_seq ?_
   refine J_block ?_
   refine Sr ?_
   refine Lq (Q_ixAt 1 i rfl rfl rfl rfl hlt rfl) ?_
   refine Lq (Q_ldEAAt 1 i 0 (vs := wdV l[i]) rfl rfl rfl rfl hlt (by decide) rfl) ?_
   refine L_o rfl rfl rfl (O_alloc fun b11 => ?_)
   refine L_s rfl rfl (O_stW 0 rfl rfl rfl rfl ?_)
   refine JL.norm ?_
   refine Ln ?_
   refine J_block ?_
   refine Sr ?_
   refine Lq (Q_fa0 rfl) ?_
   refine Lq (Q_ld 0 rfl rfl rfl rfl) ?_
   refine Lq (Q_move rfl) ?_
   refine Lq ((Q_neq rfl rfl).as (v' := .bool false) (congrArg Value.bool (decide_eq_false (by simp [e])))) ?_
   refine Lq (Q_move rfl) ?_
   refine Lq (Q_fa0 rfl) ?_
   refine Lq (Q_ld 0 rfl rfl rfl rfl) ?_
   refine Lq (Q_move rfl) ?_
   refine Lq ((Q_neq rfl rfl).as (v' := .bool false) (congrArg Value.bool (decide_eq_false (by simp [h4])))) ?_
   refine Lq (Q_pickF rfl rfl) ?_
   refine Lq (Q_assign rfl) ?_
   refine Ln ?_
   refine J_condF rfl ?_
   refine Sr ?_
   refine Lq (Q_fa0 rfl) ?_
   refine Lq (Q_ld 0 rfl rfl rfl rfl) ?_
   refine Lq (Q_move rfl) ?_
   refine Lq ((Q_seql rfl rfl).as (v' := .bool true) (congrArg Value.bool (decide_eq_true h5))) ?_
   refine Lq (Q_assign rfl) ?_
   refine Ln ?_
   refine J_condT rfl ?_
   refine J_region ?_
   refine Lq (Q_move rfl) ?_
   refine Lq (Q_cadd cadd_1 rfl rfl) ?_
   refine Lq (Q_assign rfl) ?_
   refine JL_nil ?_
   refine blockQ_normal ?_
   refine blockQ_normal ?_
   refine seqQ_normal ?_
   refine J_region ?_
   refine Lq (Q_add rfl rfl (by first | exact IntWalk.i64_in _ (by omega) | exact IntWalk.u8_in _ (by omega) | exact IntWalk.u32_in _ (by omega) | exact IntWalk.u64_in _ (by omega) | rfl)) ?_
   refine Lq (Q_move rfl) ?_
   refine JL_nil ?_
   exact loopQ_normal (i + 1) hlt (by show l.length - (i + 1) < l.length - i; omega) ⟨rfl, rfl, rfl, by rw [e1]; rfl, rfl, rfl, rfl, trivial⟩ (Ent.re [1,2,3] rfl)
  ·rw [if_neg e, Nat.add_zero] at ht
   refine J_skip ?_
   refine seqQ_normal ?_
   refine J_seq ?_
   refine J_block ?_
   refine Sr ?_
   refine Lq (Q_ixAt 1 i rfl rfl rfl rfl hlt rfl) ?_
   refine Lq (Q_ldEAAt 1 i 0 (vs := wdV l[i]) rfl rfl rfl rfl hlt (by decide) rfl) ?_
   refine L_o rfl rfl rfl (O_alloc fun b11 => ?_)
   refine L_s rfl rfl (O_stW 0 rfl rfl rfl rfl ?_)
   refine JL.norm ?_
   refine Ln ?_
   refine J_block ?_
   refine Sr ?_
   refine Lq (Q_fa0 rfl) ?_
   refine Lq (Q_ld 0 rfl rfl rfl rfl) ?_
   refine Lq (Q_move rfl) ?_
   refine Lq ((Q_neq rfl rfl).as (v' := .bool true) (congrArg Value.bool (decide_eq_true e))) ?_
   refine Lq (Q_move rfl) ?_
   refine L_n rfl rfl rfl ?_
   refine L_n rfl rfl rfl ?_
   refine L_n rfl rfl rfl ?_
   refine L_n rfl rfl rfl ?_
   refine Lq (Q_pickT rfl rfl) ?_
   refine Lq (Q_assign rfl) ?_
   refine Ln ?_
   refine J_condT rfl ?_
   refine J_skip ?_
   refine blockQ_normal ?_
   refine blockQ_normal ?_
   refine seqQ_normal ?_
   refine J_region ?_
   refine Lq (Q_add rfl rfl (by first | exact IntWalk.i64_in _ (by omega) | exact IntWalk.u8_in _ (by omega) | exact IntWalk.u32_in _ (by omega) | exact IntWalk.u64_in _ (by omega) | rfl)) ?_
   refine Lq (Q_move rfl) ?_
   refine JL_nil ?_
   exact loopQ_normal (i + 1) hlt (by show l.length - (i + 1) < l.length - i; omega) ⟨rfl, rfl, rfl, by rw [ht]; rfl, rfl, rfl, rfl, trivial⟩ (Ent.re [1,2,3] rfl)
 ·obtain rfl : i = l.length := by omega
  rw [List.take_length]
  refine J_exit ?_
  refine seqQ_exit ?_
  refine loopQ_exit ?_
  refine blockQ_hit ?_
  refine seqQ_normal ?_
  refine Sr ?_
  refine Lq (Q_move rfl) ?_
  refine Lq (Q_assign rfl) ?_
  refine Ln ?_
  refine J_ret ?_
  exact retQ_ret _ [votC p S.v, slc tWd true S l] (.cons (RV_tmp rfl) .nil) ⟨rfl, rfl⟩ (Ent.refl _)
theorem vcount_ok (E : World) (p : Nat) (S : SV) (l : List Wd) (k : Int) (v : Ky) (hV : Vots l v) (hc : cntK l k ≤ 1) : Does Tryz.prog E 137 [.pointer (some ⟨p, 0, none⟩), .int .i64 k, .int .i64 0, str v] [votC p S.v, slc tWd true S l] fun r L => r = .int .i64 (cntK l k : Int) ∧ L = [votC p S.v, slc tWd true S l] := by
 have ht := vtally_ok E p S.v S rfl l k v hV hc
 have hf : ∀ (P : Program) (w : World), (Conv.floatToInt .f64 (fl01 (cntK l k)) .i64).run P w = .ok (.int .i64 (cntK l k : Int)) w := by
  rcases Nat.lt_or_ge (cntK l k) 1 with h | h
  ·have e : cntK l k = 0 := by omega
   rw [e]; exact f2i_0
  ·have e : cntK l k = 1 := by omega
   rw [e]; exact f2i_1
 refine Does.of Tryz.func137 rfl Tryz.ntmps137 rfl rfl fun F => ?_
 refine J.norm ?_
 refine Sr ?_
 refine Lq (Q_assign rfl) ?_
 refine Ln ?_
 refine Sr ?_
 refine Lq (Q_move rfl) ?_
 refine Lq (Q_move rfl) ?_
 refine Lq (Q_move rfl) ?_
 refine Lq (Q_move rfl) ?_
 refine L_o rfl rfl rfl (O_call [0,1] [2] ht rfl rfl ?_)
 rintro _ _ ⟨rfl, rfl⟩
 refine JL.norm ?_
 refine Lq (Q_real rfl) ?_
 refine Lq (Q_f2i hf rfl) ?_
 refine Lq (Q_assign rfl) ?_
 refine Ln ?_
 refine J_ret ?_
 exact retQ_ret _ [votC p S.v, slc tWd true S l] (.cons (RV_tmp rfl) .nil) ⟨rfl, rfl⟩ (Ent.refl _)
end Go.Proofs
