/- A key taken away. -/
import Derived.Test.YtihlnjafeocbnaaTree8
set_option autoImplicit false
namespace Go.Proofs
open Go.SL
theorem pL_get1' {d : Nat} (A B : List (Nat × T d)) (e : Nat × T d) (h : A.length < (pL (A ++ e :: B)).length) : (pL (A ++ e :: B))[A.length] = some e.1 := mid_get _ A B e h
attribute [local irreducible] J JL QOp JOp seqQ blockQ loopQ retQ slc cel hex star pur stars Does RV Ent pAt scopeQ
attribute [local irreducible] nodeA nodeX treeA
theorem ndel_ok (E : World) (d0 p0 m0 : Nat) (t0 : T d0) (k0 : Ky) (hw0 : wf m0 d0 t0) (hm0 : 0 < d0 → 1 ≤ m0) (hu0 : Up (flat d0 t0)) (hh0 : hasL (flat d0 t0) k0 = true) : Does Try.prog E 30 [.pointer (some ⟨p0, 0, none⟩), str k0] [nodeA d0 p0 t0]
    fun r L => r = .tuple #[] ∧ L = [nodeX (m0 - 1) d0 p0 (delL (flat d0 t0) k0)] := by
  refine Does.of Try.func30 rfl Try.ntmps30 rfl rfl fun F => ?_
  refine J.norm ?_
  refine J_block ?_
  refine J_loop (fun i : It × Ky => wf i.1.m i.1.d i.1.t ∧ (0 < i.1.d → 1 ≤ i.1.m) ∧ Up (flat i.1.d i.1.t) ∧ hasL (flat i.1.d i.1.t) i.2 = true ∧ Ent [nodeX (i.1.m - 1) i.1.d i.1.p (delL (flat i.1.d i.1.t) i.2), i.1.G] [nodeX (m0 - 1) d0 p0 (delL (flat d0 t0) k0), F])
    (fun i => [(0, .pointer (some ⟨i.1.p, 0, none⟩)), (1, str i.2)]) (fun i => [nodeA i.1.d i.1.p i.1.t, i.1.G]) (fun i => i.1.d) (⟨d0, p0, m0, t0, F⟩, k0) ⟨hw0, hm0, hu0, hh0, Ent.refl _⟩ ⟨rfl, rfl, trivial⟩ (Ent.refl _) ?_
  rintro ⟨⟨d, p, m, t, G⟩, k⟩ ⟨hw, hm, hu, hh, hcl⟩
  dsimp only at hw hm hu hh hcl ⊢
  have hku := ks_up hw hu
  have hk7 := (wf_ks hw).2
  cases d with
  | zero =>
    refine J.leaf fun S R => ?_
    have hb : hasL (tks 0 t) k = true := hh
    have hpl := pos_le (tks 0 t) k
    have hf := find_ok E p S R (tks 0 t) k (by omega) hku
    obtain ⟨K1, K2, u, hK, hp⟩ := hit_split hku hb
    rw [hb] at hf
    have hw2 : m ≤ (tks 0 t).length ∧ (tks 0 t).length ≤ 7 := hw
    have hfl : flat 0 (K1 ++ K2 : List Kv) = delL (flat 0 t) k := by
      show K1 ++ K2 = delL (tks 0 t) k
      rw [hK] at hku ⊢
      obtain ⟨m1, m2, _, _⟩ := up_mid hku
      exact (del_hit m1 m2 u).symm
    generalize hks : tks 0 t = K at *
    generalize posK K k = i at *
    subst hK
    have hlt : i < (K1 ++ (⟨k, u⟩ : Kv) :: K2).length := by rw [← hp]; simp
    refine J_block ?_
    refine J_seq ?_
    refine J_region ?_
    refine L_q (Q_move rfl) rfl rfl rfl ?_
    refine L_q (Q_move rfl) rfl rfl rfl ?_
    refine L_o rfl rfl rfl (O_call [0,1] [2,3] hf rfl rfl ?_)
    rintro _ _ ⟨rfl, rfl⟩
    refine JL.norm ?_
    refine L_q (Q_move rfl) rfl rfl rfl ?_
    refine L_q (Q_extract (v := .int .i64 (i : Int)) rfl rfl) rfl rfl rfl ?_
    refine L_q (Q_extract (v := .bool true) rfl rfl) rfl rfl rfl ?_
    refine L_q (Q_assign rfl) rfl rfl rfl ?_
    refine L_q (Q_assign rfl) rfl rfl rfl ?_
    refine JL_nil ?_
    refine seqQ_normal ?_
    refine J_block ?_
    refine J_seq ?_
    refine J_region ?_
    refine L_q (Q_move rfl) rfl rfl rfl ?_
    refine L_o rfl rfl rfl (O_call [0,2] [1,3] (leaf_ok E p S R []) rfl rfl ?_)
    rintro _ _ ⟨rfl, rfl⟩
    refine JL.norm ?_
    refine L_q (Q_assign rfl) rfl rfl rfl ?_
    refine JL_nil ?_
    refine seqQ_normal ?_
    refine J_condT rfl ?_
    refine J_seq ?_
    refine J_seq ?_
    refine J_region ?_
    refine L_q (Q_move rfl) rfl rfl rfl ?_
    refine JL_nil ?_
    refine seqQ_normal ?_
    refine J_condT rfl ?_
    refine J_region ?_
    refine L_q (Q_move rfl) rfl rfl rfl ?_
    refine L_q (Q_move rfl) rfl rfl rfl ?_
    refine L_q (Q_nilCheck rfl) rfl rfl rfl ?_
    refine L_q (Q_fa0 rfl) rfl rfl rfl ?_
    refine L_q (Q_ld 0 rfl rfl rfl rfl) rfl rfl rfl ?_
    refine L_q (Q_move rfl) rfl rfl rfl ?_
    refine L_q (Q_move rfl) rfl rfl rfl ?_
    refine L_q (Q_add rfl rfl (by first | exact IntWalk.i64_in _ (by omega) | exact IntWalk.u8_in _ (by omega) | exact IntWalk.u32_in _ (by omega) | exact IntWalk.u64_in _ (by omega) | rfl)) rfl rfl rfl ?_
    refine L_o rfl rfl rfl (O_call [2] [0,1,3] (kvdel_ok E S (K1 ++ (⟨k, u⟩ : Kv) :: K2) i (i + 1) (by omega) hlt (by omega)) rfl rfl ?_)
    rintro _ _ ⟨S2, rfl, rfl⟩
    refine JL.norm ?_
    refine L_q (Q_nilCheck rfl) rfl rfl rfl ?_
    refine L_q (Q_fa0 rfl) rfl rfl rfl ?_
    refine L_s rfl rfl (O_st1 1 rfl rfl rfl rfl rfl ?_)
    refine JL.norm ?_
    refine JL_nil ?_
    refine seqQ_normal ?_
    refine J_ret ?_
    refine blockQ_ret ?_
    refine blockQ_ret ?_
    refine loopQ_ret ?_
    refine blockQ_ret ?_
    rw [del_mid hp]
    simp only [List.length_append, List.length_cons] at hw2
    exact retQ_ret _ [nodeX (m0 - 1) d0 p0 (delL (flat d0 t0) k0)] .nil ⟨rfl, rfl⟩ ((Ent.re [1, 0, 2, 3] rfl).trans ((Ent.leafA (t := (K1 ++ K2 : List Kv))).trans ((Ent.mkX (show wf (m - 1) 0 (K1 ++ K2 : List Kv) from ⟨by simp only [List.length_append]; omega, by simp only [List.length_append]; omega⟩) hfl).trans hcl)))
  | succ d =>
    obtain ⟨Kt, C⟩ := t
    have hm1 : 1 ≤ m := hm (Nat.succ_pos d)
    refine J.inner fun S R es hes => ?_
    dsimp only at hes ⊢
    have hku : Up Kt := hku
    obtain ⟨hwm, hw7, hwC, hwc⟩ := hw
    dsimp only at hwm hw7 hwC hwc
    have hpl := pos_le Kt k
    have hel : es.length = Kt.length + 1 := by rw [← hwC, ← hes, List.length_map]
    have hf := find_ok E p S R Kt k (by omega) hku
    have hlf := leaf_ok E p S R (pL es)
    rw [show decide (((pL es).length : Int) = 0) = false from decide_eq_false (by rw [pL_len]; omega)] at hlf
    cases hb : hasL Kt k with
    | true =>
      obtain ⟨K1, K2, u, hK, hp⟩ := hit_split hku hb
      rw [hb] at hf
      generalize posK Kt k = i at *
      subst hK
      have hlen : (K1 ++ (⟨k, u⟩ : Kv) :: K2).length = K1.length + K2.length + 1 := by simp; omega
      obtain ⟨A, x, B', rfl, hAi⟩ := split_at (l := es) (i := i) (by omega)
      subst hAi
      have hel2 : (A ++ x :: B').length = A.length + B'.length + 1 := by simp; omega
      obtain ⟨y, B, rfl⟩ := cons_of (l := B') (by omega)
      rw [List.length_cons] at hel2
      have hBl : K2.length = B.length := by omega
      subst hes
      have hw3 : ∀ c ∈ A ++ x :: y :: B, wf 3 d c.2 := fun c hc => hwc c.2 (List.mem_map_of_mem hc)
      have hwx : wf 3 d x.2 := hw3 x (by simp)
      have hwy : wf 3 d y.2 := hw3 y (by simp)
      have hx3 := (wf_ks hwx).1
      have hy3 := (wf_ks hwy).1
      have hlt : A.length < (K1 ++ (⟨k, u⟩ : Kv) :: K2).length := by omega
      have hgi := get_mid (x := (⟨k, u⟩ : Kv)) (Y := K2) hp hlt
      have hset := fun g : Kv => set_mid (x := (⟨k, u⟩ : Kv)) (y := g) (Y := K2) hp
      have hlt2 : ∀ g : Kv, A.length < (K1 ++ g :: K2).length := fun g => by simp only [List.length_append, List.length_cons] at hlt ⊢; exact hlt
      have hgi2 : ∀ g : Kv, (K1 ++ g :: K2)[A.length]'(hlt2 g) = g := fun g => get_mid hp (hlt2 g)
      have hu2 : Up (flat (d + 1) (K1 ++ ⟨k, u⟩ :: K2, A.map (·.2) ++ x.2 :: y.2 :: B.map (·.2))) := by simpa using hu
      have hAm : K1.length = (A.map (·.2)).length := by simpa using hp
      have hcl2 : Ent [nodeX (m - 1) (d + 1) p (delL (flat (d + 1) (K1 ++ ⟨k, u⟩ :: K2, A.map (·.2) ++ x.2 :: y.2 :: B.map (·.2))) k), G] [nodeX (m0 - 1) d0 p0 (delL (flat d0 t0) k0), F] := by simpa using hcl
      have hPx : A.length < (pL (A ++ x :: y :: B)).length := by rw [pL_len]; simp
      have hPy : A.length + 1 < (pL (A ++ x :: y :: B)).length := by rw [pL_len]; simp
      have gx := pL_get1 A B x y hPx
      have gy := pL_get2 A B x y hPy
      refine J_block ?_
      refine J_seq ?_
      refine J_region ?_
      refine L_q (Q_move rfl) rfl rfl rfl ?_
      refine L_q (Q_move rfl) rfl rfl rfl ?_
      refine L_o rfl rfl rfl (O_call [0,1] [2,3,4] hf rfl rfl ?_)
      rintro _ _ ⟨rfl, rfl⟩
      refine JL.norm ?_
      refine L_q (Q_move rfl) rfl rfl rfl ?_
      refine L_q (Q_extract (v := .int .i64 (A.length : Int)) rfl rfl) rfl rfl rfl ?_
      refine L_q (Q_extract (v := .bool true) rfl rfl) rfl rfl rfl ?_
      refine L_q (Q_assign rfl) rfl rfl rfl ?_
      refine L_q (Q_assign rfl) rfl rfl rfl ?_
      refine JL_nil ?_
      refine seqQ_normal ?_
      refine J_block ?_
      refine J_seq ?_
      refine J_region ?_
      refine L_q (Q_move rfl) rfl rfl rfl ?_
      refine L_o rfl rfl rfl (O_call [0,2] [1,3,4] hlf rfl rfl ?_)
      rintro _ _ ⟨rfl, rfl⟩
      refine JL.norm ?_
      refine L_q (Q_assign rfl) rfl rfl rfl ?_
      refine JL_nil ?_
      refine seqQ_normal ?_
      refine J_condF rfl ?_
      refine J_seq ?_
      refine J_region ?_
      refine L_q (Q_move rfl) rfl rfl rfl ?_
      refine L_q ((Q_not rfl).as (v' := .bool false) rfl) rfl rfl rfl ?_
      refine L_q (Q_assign rfl) rfl rfl rfl ?_
      refine JL_nil ?_
      refine seqQ_normal ?_
      refine J_condF rfl ?_
      refine J_seq ?_
      refine J.ent ((Ent.re [3, 0, 1, 2, 4] rfl).trans (Ent.mid_out (ndE d) A x (y :: B))) ?_
      refine J.peek fun Sc Rc X hX => ?_
      have hclose : Ent (ndC x.1 Sc Rc :: slc tKv true Sc (tks d x.2) :: X :: stars ((A ++ y :: B).map (ndE d)) :: ndC p S R :: slc tNd true R (pL (A ++ x :: y :: B)) :: slc tKv true S (K1 ++ ⟨k, u⟩ :: K2) :: G :: []) [nodeA d x.1 x.2, stars ((A ++ y :: B).map (ndE d)), ndC p S R, slc tNd true R (pL (A ++ x :: y :: B)), slc tKv true S (K1 ++ ⟨k, u⟩ :: K2), G] := hX _
      by_cases c1 : 3 < (tks d x.2).length
      · have he := edgeT_ok E d x.1 3 x.2 hwx (by decide)
        refine J_region ?_
        refine L_q (Q_move rfl) rfl rfl rfl ?_
        refine L_q (Q_nilCheck rfl) rfl rfl rfl ?_
        refine L_q (Q_fa0 rfl) rfl rfl rfl ?_
        refine L_q (Q_ld 4 rfl rfl rfl rfl) rfl rfl rfl ?_
        refine L_q (Q_move rfl) rfl rfl rfl ?_
        refine L_q (Q_ixAt 5 A.length rfl rfl rfl rfl hPx rfl) rfl rfl rfl ?_
        refine L_q (Q_ldEAt 5 A.length 0 (v := .pointer (some ⟨x.1, 0, none⟩)) rfl rfl rfl rfl hPx (by decide) (by rw [gx]; rfl)) rfl rfl rfl ?_
        refine L_q (Q_nilCheck rfl) rfl rfl rfl ?_
        refine L_q (Q_fa0 rfl) rfl rfl rfl ?_
        refine L_q (Q_ld 0 rfl rfl rfl rfl) rfl rfl rfl ?_
        refine L_q (Q_lenAt 1 rfl rfl) rfl rfl rfl ?_
        refine L_q ((Q_gtr rfl rfl).as (v' := .bool true) (congrArg Value.bool (decide_eq_true (by omega)))) rfl rfl rfl ?_
        refine L_q (Q_assign rfl) rfl rfl rfl ?_
        refine JL_nil ?_
        refine seqQ_normal ?_
        refine J_condT rfl ?_
        refine J_seq ?_
        refine J.ent hclose ?_
        refine J_drawH [2,3,4] [0, 1, 2, 3, 4, 5, 6, 7, 8, 9, 10, 11, 13] (.quiet 0 (.quiet 1 (.quiet 2 (.quiet 3 (.quiet 4 (.quiet 5 (.quiet 6 (.quiet 7 (.quiet 8 (.quiet 9 (.quiet 10 (.quiet 11 (.loud 12 (.quiet 13 (.loud 14 .done))))))))))))))) Try.mixed (by kernel_rfl) (by kernel_rfl) (by repeat (first | exact retQ_noP | refine seqQ_noP ?_ | refine blockQ_noP ?_ | refine loopQ_noP ?_ | refine scopeQ_noP ?_ | (intro _ _ _ h; cases h.1))) ?_
        refine S_q (Ent.re [2,3,4] rfl) rfl (Q_move rfl) rfl rfl rfl ?_
        refine S_q (Ent.re [2,3,4] rfl) rfl (Q_nilCheck rfl) rfl rfl rfl ?_
        refine S_q (Ent.re [2,3,4] rfl) rfl (Q_fa0 rfl) rfl rfl rfl ?_
        refine S_q (Ent.re [2,3,4] rfl) rfl (Q_ld 0 rfl rfl rfl rfl) rfl rfl rfl ?_
        refine S_q (Ent.re [2,3,4] rfl) rfl (Q_move rfl) rfl rfl rfl ?_
        refine S_q (Ent.re [2,3,4] rfl) rfl (Q_move rfl) rfl rfl rfl ?_
        refine S_q (Ent.re [2,3,4] rfl) rfl (Q_nilCheck rfl) rfl rfl rfl ?_
        refine S_q (Ent.re [2,3,4] rfl) rfl (Q_fa0 rfl) rfl rfl rfl ?_
        refine S_q (Ent.re [2,3,4] rfl) rfl (Q_ld 0 rfl rfl rfl rfl) rfl rfl rfl ?_
        refine S_q (Ent.re [2,3,4] rfl) rfl (Q_move rfl) rfl rfl rfl ?_
        refine S_q (Ent.re [2,3,4] rfl) rfl (Q_ixAt 1 A.length rfl rfl rfl rfl hPx rfl) rfl rfl rfl ?_
        refine S_q (Ent.re [2,3,4] rfl) rfl (Q_ldEAt 1 A.length 0 (v := .pointer (some ⟨x.1, 0, none⟩)) rfl rfl rfl rfl hPx (by decide) (by rw [gx]; rfl)) rfl rfl rfl ?_
        refine S_o rfl rfl rfl rfl (O_call [0] [1,2,3,4,5] he rfl rfl ?_)
        (rintro _ _ ⟨Z, g, hZ, rfl, rfl⟩; refine ⟨_, fun _ => ⟨Ent.reN [2,3,4] rfl, Ent.refl _⟩, ?_⟩)
        refine JS.norm ?_
        refine S_q (Ent.re [2,3,4] rfl) rfl (Q_ixAt 2 A.length rfl rfl rfl rfl hlt rfl) rfl rfl rfl ?_
        refine S_s rfl rfl rfl (O_stE 4 A.length 0 g rfl rfl rfl rfl rfl rfl (by intro c hc; simp [Value.cells] at hc; rcases hc with rfl | rfl <;> rfl) hlt (Nat.le_refl 2) (by simp [tKv, Value.cells]) ⟨[], free_no (by kernel_rfl), ?_⟩)
        refine JS.norm ?_
        refine S_nil ?_
        refine seqQ_normal ?_
        rw [hset]
        refine J_drawH [2,3,4] [0, 1, 2, 3, 4, 5, 6, 7, 8, 9, 10, 11, 12, 13, 14, 15, 16] (.quiet 0 (.quiet 1 (.quiet 2 (.quiet 3 (.quiet 4 (.quiet 5 (.quiet 6 (.quiet 7 (.quiet 8 (.quiet 9 (.quiet 10 (.quiet 11 (.quiet 12 (.quiet 13 (.quiet 14 (.quiet 15 (.quiet 16 .done))))))))))))))))) Try.mixed (by kernel_rfl) (by kernel_rfl) (by repeat (first | exact retQ_noP | refine seqQ_noP ?_ | refine blockQ_noP ?_ | refine loopQ_noP ?_ | refine scopeQ_noP ?_ | (intro _ _ _ h; cases h.1))) ?_
        refine S_q (Ent.re [2,3,4] rfl) rfl (Q_move rfl) rfl rfl rfl ?_
        refine S_q (Ent.re [2,3,4] rfl) rfl (Q_nilCheck rfl) rfl rfl rfl ?_
        refine S_q (Ent.re [2,3,4] rfl) rfl (Q_fa0 rfl) rfl rfl rfl ?_
        refine S_q (Ent.re [2,3,4] rfl) rfl (Q_ld 0 rfl rfl rfl rfl) rfl rfl rfl ?_
        refine S_q (Ent.re [2,3,4] rfl) rfl (Q_move rfl) rfl rfl rfl ?_
        refine S_q (Ent.re [2,3,4] rfl) rfl (Q_ixAt 2 A.length rfl rfl rfl rfl (hlt2 g) rfl) rfl rfl rfl ?_
        refine S_q (Ent.re [2,3,4] rfl) rfl (Q_pfa rfl) rfl rfl rfl ?_
        refine S_q (Ent.re [2,3,4] rfl) rfl (Q_ldEAt 2 A.length 0 (v := str g.key) rfl rfl rfl rfl (hlt2 g) (by decide) (by rw [hgi2]; rfl)) rfl rfl rfl ?_
        refine S_q (Ent.re [2,3,4] rfl) rfl (Q_move rfl) rfl rfl rfl ?_
        refine S_q (Ent.re [2,3,4] rfl) rfl (Q_nilCheck rfl) rfl rfl rfl ?_
        refine S_q (Ent.re [2,3,4] rfl) rfl (Q_fa0 rfl) rfl rfl rfl ?_
        refine S_q (Ent.re [2,3,4] rfl) rfl (Q_ld 0 rfl rfl rfl rfl) rfl rfl rfl ?_
        refine S_q (Ent.re [2,3,4] rfl) rfl (Q_move rfl) rfl rfl rfl ?_
        refine S_q (Ent.re [2,3,4] rfl) rfl (Q_ixAt 1 A.length rfl rfl rfl rfl hPx rfl) rfl rfl rfl ?_
        refine S_q (Ent.re [2,3,4] rfl) rfl (Q_ldEAt 1 A.length 0 (v := .pointer (some ⟨x.1, 0, none⟩)) rfl rfl rfl rfl hPx (by decide) (by rw [gx]; rfl)) rfl rfl rfl ?_
        refine S_q (Ent.re [2,3,4] rfl) rfl (Q_assign rfl) rfl rfl rfl ?_
        refine S_q (Ent.re [2,3,4] rfl) rfl (Q_assign rfl) rfl rfl rfl ?_
        refine S_nil ?_
        refine blockQ_normal ?_
        refine blockQ_normal ?_
        obtain ⟨q1, q2, q3⟩ := del_left hAm hu2 hZ
        refine loopQ_normal (⟨d, x.1, 4, x.2, stars (parL p S R (K1 ++ g :: K2) (pL A ++ some x.1 :: pL (y :: B)) (A ++ y :: B) G)⟩, g.key) ⟨wf_mk hwx c1, fun _ => (by show 1 ≤ 4; decide), q1, q2, (plugX hp (by simp [hBl]) (by simp only [List.length_cons]; omega) (by simp only [List.length_cons]; omega) (fun c hc => hw3 c (by simp only [List.mem_append, List.mem_cons] at hc ⊢; exact hc.elim .inl (fun h => .inr (.inr h)))) q3).trans hcl2⟩ (Nat.lt_succ_self d) ⟨rfl, rfl, trivial⟩ Ent.foldP
      · skip
        refine J_region ?_
        refine L_q (Q_move rfl) rfl rfl rfl ?_
        refine L_q (Q_nilCheck rfl) rfl rfl rfl ?_
        refine L_q (Q_fa0 rfl) rfl rfl rfl ?_
        refine L_q (Q_ld 4 rfl rfl rfl rfl) rfl rfl rfl ?_
        refine L_q (Q_move rfl) rfl rfl rfl ?_
        refine L_q (Q_ixAt 5 A.length rfl rfl rfl rfl hPx rfl) rfl rfl rfl ?_
        refine L_q (Q_ldEAt 5 A.length 0 (v := .pointer (some ⟨x.1, 0, none⟩)) rfl rfl rfl rfl hPx (by decide) (by rw [gx]; rfl)) rfl rfl rfl ?_
        refine L_q (Q_nilCheck rfl) rfl rfl rfl ?_
        refine L_q (Q_fa0 rfl) rfl rfl rfl ?_
        refine L_q (Q_ld 0 rfl rfl rfl rfl) rfl rfl rfl ?_
        refine L_q (Q_lenAt 1 rfl rfl) rfl rfl rfl ?_
        refine L_q ((Q_gtr rfl rfl).as (v' := .bool false) (congrArg Value.bool (decide_eq_false (by omega)))) rfl rfl rfl ?_
        refine L_q (Q_assign rfl) rfl rfl rfl ?_
        refine JL_nil ?_
        refine seqQ_normal ?_
        refine J_condF rfl ?_
        refine J_seq ?_
        refine J.ent ((hclose).trans (Ent.mid_in (ndE d) A x (y :: B))) ?_
        have eS : (A ++ x :: y :: B).map (ndE d) = ((A ++ [x]) ++ y :: B).map (ndE d) := by simp
        have eA : (A ++ x :: y :: B) = (A ++ [x]) ++ y :: B := by simp
        rw [eS]
        refine J.ent (Ent.mid_out (ndE d) (A ++ [x]) y B) ?_
        refine J.peek fun Sd Rd Y hY => ?_
        have hclos2 : Ent (ndC y.1 Sd Rd :: slc tKv true Sd (tks d y.2) :: Y :: stars (((A ++ [x]) ++ B).map (ndE d)) :: ndC p S R :: slc tNd true R (pL (A ++ x :: y :: B)) :: slc tKv true S (K1 ++ ⟨k, u⟩ :: K2) :: G :: []) [nodeA d y.1 y.2, stars (((A ++ [x]) ++ B).map (ndE d)), ndC p S R, slc tNd true R (pL (A ++ x :: y :: B)), slc tKv true S (K1 ++ ⟨k, u⟩ :: K2), G] := hY _
        by_cases c2 : 3 < (tks d y.2).length
        · have he := edgeF_ok E d y.1 3 y.2 hwy (by decide)
          refine J_region ?_
          refine L_q (Q_move rfl) rfl rfl rfl ?_
          refine L_q (Q_nilCheck rfl) rfl rfl rfl ?_
          refine L_q (Q_fa0 rfl) rfl rfl rfl ?_
          refine L_q (Q_ld 4 rfl rfl rfl rfl) rfl rfl rfl ?_
          refine L_q (Q_move rfl) rfl rfl rfl ?_
          refine L_q (Q_add rfl rfl (by first | exact IntWalk.i64_in _ (by omega) | exact IntWalk.u8_in _ (by omega) | exact IntWalk.u32_in _ (by omega) | exact IntWalk.u64_in _ (by omega) | rfl)) rfl rfl rfl ?_
          refine L_q (Q_ixAt 5 (A.length + 1) rfl rfl rfl rfl hPy rfl) rfl rfl rfl ?_
          refine L_q (Q_ldEAt 5 (A.length + 1) 0 (v := .pointer (some ⟨y.1, 0, none⟩)) rfl rfl rfl rfl hPy (by decide) (by rw [gy]; rfl)) rfl rfl rfl ?_
          refine L_q (Q_nilCheck rfl) rfl rfl rfl ?_
          refine L_q (Q_fa0 rfl) rfl rfl rfl ?_
          refine L_q (Q_ld 0 rfl rfl rfl rfl) rfl rfl rfl ?_
          refine L_q (Q_lenAt 1 rfl rfl) rfl rfl rfl ?_
          refine L_q ((Q_gtr rfl rfl).as (v' := .bool true) (congrArg Value.bool (decide_eq_true (by omega)))) rfl rfl rfl ?_
          refine L_q (Q_assign rfl) rfl rfl rfl ?_
          refine JL_nil ?_
          refine seqQ_normal ?_
          refine J_condT rfl ?_
          refine J_seq ?_
          refine J.ent hclos2 ?_
          refine J_drawH [2,3,4] [0, 1, 2, 3, 4, 5, 6, 7, 8, 9, 10, 11, 12, 14] (.quiet 0 (.quiet 1 (.quiet 2 (.quiet 3 (.quiet 4 (.quiet 5 (.quiet 6 (.quiet 7 (.quiet 8 (.quiet 9 (.quiet 10 (.quiet 11 (.quiet 12 (.loud 13 (.quiet 14 (.loud 15 .done)))))))))))))))) Try.mixed (by kernel_rfl) (by kernel_rfl) (by repeat (first | exact retQ_noP | refine seqQ_noP ?_ | refine blockQ_noP ?_ | refine loopQ_noP ?_ | refine scopeQ_noP ?_ | (intro _ _ _ h; cases h.1))) ?_
          refine S_q (Ent.re [2,3,4] rfl) rfl (Q_move rfl) rfl rfl rfl ?_
          refine S_q (Ent.re [2,3,4] rfl) rfl (Q_nilCheck rfl) rfl rfl rfl ?_
          refine S_q (Ent.re [2,3,4] rfl) rfl (Q_fa0 rfl) rfl rfl rfl ?_
          refine S_q (Ent.re [2,3,4] rfl) rfl (Q_ld 0 rfl rfl rfl rfl) rfl rfl rfl ?_
          refine S_q (Ent.re [2,3,4] rfl) rfl (Q_move rfl) rfl rfl rfl ?_
          refine S_q (Ent.re [2,3,4] rfl) rfl (Q_move rfl) rfl rfl rfl ?_
          refine S_q (Ent.re [2,3,4] rfl) rfl (Q_nilCheck rfl) rfl rfl rfl ?_
          refine S_q (Ent.re [2,3,4] rfl) rfl (Q_fa0 rfl) rfl rfl rfl ?_
          refine S_q (Ent.re [2,3,4] rfl) rfl (Q_ld 0 rfl rfl rfl rfl) rfl rfl rfl ?_
          refine S_q (Ent.re [2,3,4] rfl) rfl (Q_move rfl) rfl rfl rfl ?_
          refine S_q (Ent.re [2,3,4] rfl) rfl (Q_add rfl rfl (by first | exact IntWalk.i64_in _ (by omega) | exact IntWalk.u8_in _ (by omega) | exact IntWalk.u32_in _ (by omega) | exact IntWalk.u64_in _ (by omega) | rfl)) rfl rfl rfl ?_
          refine S_q (Ent.re [2,3,4] rfl) rfl (Q_ixAt 1 (A.length + 1) rfl rfl rfl rfl hPy rfl) rfl rfl rfl ?_
          refine S_q (Ent.re [2,3,4] rfl) rfl (Q_ldEAt 1 (A.length + 1) 0 (v := .pointer (some ⟨y.1, 0, none⟩)) rfl rfl rfl rfl hPy (by decide) (by rw [gy]; rfl)) rfl rfl rfl ?_
          refine S_o rfl rfl rfl rfl (O_call [0] [1,2,3,4,5] he rfl rfl ?_)
          (rintro _ _ ⟨Z, g, hZ, rfl, rfl⟩; refine ⟨_, fun _ => ⟨Ent.reN [2,3,4] rfl, Ent.refl _⟩, ?_⟩)
          refine JS.norm ?_
          refine S_q (Ent.re [2,3,4] rfl) rfl (Q_ixAt 2 A.length rfl rfl rfl rfl hlt rfl) rfl rfl rfl ?_
          refine S_s rfl rfl rfl (O_stE 4 A.length 0 g rfl rfl rfl rfl rfl rfl (by intro c hc; simp [Value.cells] at hc; rcases hc with rfl | rfl <;> rfl) hlt (Nat.le_refl 2) (by simp [tKv, Value.cells]) ⟨[], free_no (by kernel_rfl), ?_⟩)
          refine JS.norm ?_
          refine S_nil ?_
          refine seqQ_normal ?_
          rw [hset]
          refine J_drawH [2,3,4] [0, 1, 2, 3, 4, 5, 6, 7, 8, 9, 10, 11, 12, 13, 14, 15, 16, 17] (.quiet 0 (.quiet 1 (.quiet 2 (.quiet 3 (.quiet 4 (.quiet 5 (.quiet 6 (.quiet 7 (.quiet 8 (.quiet 9 (.quiet 10 (.quiet 11 (.quiet 12 (.quiet 13 (.quiet 14 (.quiet 15 (.quiet 16 (.quiet 17 .done)))))))))))))))))) Try.mixed (by kernel_rfl) (by kernel_rfl) (by repeat (first | exact retQ_noP | refine seqQ_noP ?_ | refine blockQ_noP ?_ | refine loopQ_noP ?_ | refine scopeQ_noP ?_ | (intro _ _ _ h; cases h.1))) ?_
          refine S_q (Ent.re [2,3,4] rfl) rfl (Q_move rfl) rfl rfl rfl ?_
          refine S_q (Ent.re [2,3,4] rfl) rfl (Q_nilCheck rfl) rfl rfl rfl ?_
          refine S_q (Ent.re [2,3,4] rfl) rfl (Q_fa0 rfl) rfl rfl rfl ?_
          refine S_q (Ent.re [2,3,4] rfl) rfl (Q_ld 0 rfl rfl rfl rfl) rfl rfl rfl ?_
          refine S_q (Ent.re [2,3,4] rfl) rfl (Q_move rfl) rfl rfl rfl ?_
          refine S_q (Ent.re [2,3,4] rfl) rfl (Q_ixAt 2 A.length rfl rfl rfl rfl (hlt2 g) rfl) rfl rfl rfl ?_
          refine S_q (Ent.re [2,3,4] rfl) rfl (Q_pfa rfl) rfl rfl rfl ?_
          refine S_q (Ent.re [2,3,4] rfl) rfl (Q_ldEAt 2 A.length 0 (v := str g.key) rfl rfl rfl rfl (hlt2 g) (by decide) (by rw [hgi2]; rfl)) rfl rfl rfl ?_
          refine S_q (Ent.re [2,3,4] rfl) rfl (Q_move rfl) rfl rfl rfl ?_
          refine S_q (Ent.re [2,3,4] rfl) rfl (Q_nilCheck rfl) rfl rfl rfl ?_
          refine S_q (Ent.re [2,3,4] rfl) rfl (Q_fa0 rfl) rfl rfl rfl ?_
          refine S_q (Ent.re [2,3,4] rfl) rfl (Q_ld 0 rfl rfl rfl rfl) rfl rfl rfl ?_
          refine S_q (Ent.re [2,3,4] rfl) rfl (Q_move rfl) rfl rfl rfl ?_
          refine S_q (Ent.re [2,3,4] rfl) rfl (Q_add rfl rfl (by first | exact IntWalk.i64_in _ (by omega) | exact IntWalk.u8_in _ (by omega) | exact IntWalk.u32_in _ (by omega) | exact IntWalk.u64_in _ (by omega) | rfl)) rfl rfl rfl ?_
          refine S_q (Ent.re [2,3,4] rfl) rfl (Q_ixAt 1 (A.length + 1) rfl rfl rfl rfl hPy rfl) rfl rfl rfl ?_
          refine S_q (Ent.re [2,3,4] rfl) rfl (Q_ldEAt 1 (A.length + 1) 0 (v := .pointer (some ⟨y.1, 0, none⟩)) rfl rfl rfl rfl hPy (by decide) (by rw [gy]; rfl)) rfl rfl rfl ?_
          refine S_q (Ent.re [2,3,4] rfl) rfl (Q_assign rfl) rfl rfl rfl ?_
          refine S_q (Ent.re [2,3,4] rfl) rfl (Q_assign rfl) rfl rfl rfl ?_
          refine S_nil ?_
          refine blockQ_normal ?_
          refine blockQ_normal ?_
          obtain ⟨q1, q2, q3⟩ := del_right hAm hu2 hZ
          rw [show K1 ++ g :: K2 = (K1 ++ [g]) ++ K2 by simp, eA]
          refine loopQ_normal (⟨d, y.1, 4, y.2, stars (parL p S R ((K1 ++ [g]) ++ K2) (pL (A ++ [x]) ++ some y.1 :: pL B) ((A ++ [x]) ++ B) G)⟩, g.key) ⟨wf_mk hwy c2, fun _ => (by show 1 ≤ 4; decide), q1, q2, (plugX (by simp [hp]) hBl (by simp only [List.length_append, List.length_singleton]; omega) (by simp only [List.length_append, List.length_singleton]; omega) (fun c hc => hw3 c (by rw [eA]; simp only [List.mem_append, List.mem_cons] at hc ⊢; exact hc.elim .inl (fun h => .inr (.inr h)))) (by rw [q3]; simp)).trans hcl2⟩ (Nat.lt_succ_self d) ⟨rfl, rfl, trivial⟩ Ent.foldP
        · skip
          refine J_region ?_
          refine L_q (Q_move rfl) rfl rfl rfl ?_
          refine L_q (Q_nilCheck rfl) rfl rfl rfl ?_
          refine L_q (Q_fa0 rfl) rfl rfl rfl ?_
          refine L_q (Q_ld 4 rfl rfl rfl rfl) rfl rfl rfl ?_
          refine L_q (Q_move rfl) rfl rfl rfl ?_
          refine L_q (Q_add rfl rfl (by first | exact IntWalk.i64_in _ (by omega) | exact IntWalk.u8_in _ (by omega) | exact IntWalk.u32_in _ (by omega) | exact IntWalk.u64_in _ (by omega) | rfl)) rfl rfl rfl ?_
          refine L_q (Q_ixAt 5 (A.length + 1) rfl rfl rfl rfl hPy rfl) rfl rfl rfl ?_
          refine L_q (Q_ldEAt 5 (A.length + 1) 0 (v := .pointer (some ⟨y.1, 0, none⟩)) rfl rfl rfl rfl hPy (by decide) (by rw [gy]; rfl)) rfl rfl rfl ?_
          refine L_q (Q_nilCheck rfl) rfl rfl rfl ?_
          refine L_q (Q_fa0 rfl) rfl rfl rfl ?_
          refine L_q (Q_ld 0 rfl rfl rfl rfl) rfl rfl rfl ?_
          refine L_q (Q_lenAt 1 rfl rfl) rfl rfl rfl ?_
          refine L_q ((Q_gtr rfl rfl).as (v' := .bool false) (congrArg Value.bool (decide_eq_false (by omega)))) rfl rfl rfl ?_
          refine L_q (Q_assign rfl) rfl rfl rfl ?_
          refine JL_nil ?_
          refine seqQ_normal ?_
          refine J_condF rfl ?_
          refine J_seq ?_
          refine J.ent (hclos2.trans (Ent.mid_in (ndE d) (A ++ [x]) y B)) ?_
          rw [← eS]
          refine J.ent (Ent.re [1, 3, 2, 0, 4] rfl) ?_
          refine J_region ?_
          refine L_q (Q_move rfl) rfl rfl rfl ?_
          refine L_q (Q_move rfl) rfl rfl rfl ?_
          refine L_o rfl rfl rfl (O_call [0,1,2,3] [4] (merge_ok E d p S R K1 K2 ⟨k, u⟩ A B x y hp hwx hwy (by omega) (by omega) (by omega) (by omega)) rfl rfl ?_)
          rintro _ _ ⟨rfl, S', R', cm, f1, w1, hc7, rfl⟩
          refine JL.norm ?_
          refine JL_nil ?_
          refine seqQ_normal ?_
          have w4 : wf 4 d cm := wf_mk w1 (by omega)
          have hPm : A.length < (pL (A ++ (x.1, cm) :: B)).length := by rw [pL_len]; simp
          have gm := pL_get1' A B (x.1, cm) hPm
          refine J_region ?_
          refine L_q (Q_move rfl) rfl rfl rfl ?_
          refine L_q (Q_nilCheck rfl) rfl rfl rfl ?_
          refine L_q (Q_fa0 rfl) rfl rfl rfl ?_
          refine L_q (Q_ld 0 rfl rfl rfl rfl) rfl rfl rfl ?_
          refine L_q (Q_move rfl) rfl rfl rfl ?_
          refine L_q (Q_ixAt 2 A.length rfl rfl rfl rfl hPm rfl) rfl rfl rfl ?_
          refine L_q (Q_ldEAt 2 A.length 0 (v := .pointer (some ⟨x.1, 0, none⟩)) rfl rfl rfl rfl hPm (by decide) (by rw [gm]; rfl)) rfl rfl rfl ?_
          refine L_q (Q_assign rfl) rfl rfl rfl ?_
          refine JL_nil ?_
          refine blockQ_normal ?_
          refine blockQ_normal ?_
          obtain ⟨q1, q2, q3⟩ := del_mid2 hAm hu2 f1
          refine loopQ_normal (⟨d, x.1, 4, cm, stars (parL p S' R' (K1 ++ K2) (pL A ++ some x.1 :: pL B) (A ++ B) G)⟩, k) ⟨w4, fun _ => (by show 1 ≤ 4; decide), q1, q2, (plugX hp hBl (by omega) (by omega) (fun c hc => hw3 c (by simp only [List.mem_append, List.mem_cons] at hc ⊢; exact hc.elim .inl (fun h => .inr (.inr (.inr h))))) q3).trans hcl2⟩ (Nat.lt_succ_self d) ⟨rfl, rfl, trivial⟩ (Ent.downN (e := (x.1, cm)))
    | false =>
      obtain ⟨K1, K2, hK, hp, hk1, hk2⟩ := miss_split hku hb
      rw [hb] at hf
      generalize posK Kt k = i at *
      subst hK
      have hlen : (K1 ++ K2).length = K1.length + K2.length := by simp
      obtain ⟨A, e, B, rfl, hAi⟩ := split_at (l := es) (i := i) (by omega)
      subst hAi
      have hel2 : (A ++ e :: B).length = A.length + B.length + 1 := by simp; omega
      have hBl : K2.length = B.length := by omega
      subst hes
      have hw3 : ∀ c ∈ A ++ e :: B, wf 3 d c.2 := fun c hc => hwc c.2 (List.mem_map_of_mem hc)
      have hu2 : Up (flat (d + 1) (K1 ++ K2, A.map (·.2) ++ e.2 :: B.map (·.2))) := by simpa using hu
      have hh2 : hasL (flat (d + 1) (K1 ++ K2, A.map (·.2) ++ e.2 :: B.map (·.2))) k = true := by simpa using hh
      have hcl2 : Ent [nodeX (m - 1) (d + 1) p (delL (flat (d + 1) (K1 ++ K2, A.map (·.2) ++ e.2 :: B.map (·.2))) k), G] [nodeX (m0 - 1) d0 p0 (delL (flat d0 t0) k0), F] := by simpa using hcl
      refine J_block ?_
      refine J_seq ?_
      refine J_region ?_
      refine L_q (Q_move rfl) rfl rfl rfl ?_
      refine L_q (Q_move rfl) rfl rfl rfl ?_
      refine L_o rfl rfl rfl (O_call [0,1] [2,3,4] hf rfl rfl ?_)
      rintro _ _ ⟨rfl, rfl⟩
      refine JL.norm ?_
      refine L_q (Q_move rfl) rfl rfl rfl ?_
      refine L_q (Q_extract (v := .int .i64 (A.length : Int)) rfl rfl) rfl rfl rfl ?_
      refine L_q (Q_extract (v := .bool false) rfl rfl) rfl rfl rfl ?_
      refine L_q (Q_assign rfl) rfl rfl rfl ?_
      refine L_q (Q_assign rfl) rfl rfl rfl ?_
      refine JL_nil ?_
      refine seqQ_normal ?_
      refine J_block ?_
      refine J_seq ?_
      refine J_region ?_
      refine L_q (Q_move rfl) rfl rfl rfl ?_
      refine L_o rfl rfl rfl (O_call [0,2] [1,3,4] hlf rfl rfl ?_)
      rintro _ _ ⟨rfl, rfl⟩
      refine JL.norm ?_
      refine L_q (Q_assign rfl) rfl rfl rfl ?_
      refine JL_nil ?_
      refine seqQ_normal ?_
      refine J_condF rfl ?_
      refine J_seq ?_
      refine J_region ?_
      refine L_q (Q_move rfl) rfl rfl rfl ?_
      refine L_q ((Q_not rfl).as (v' := .bool true) rfl) rfl rfl rfl ?_
      refine L_q (Q_assign rfl) rfl rfl rfl ?_
      refine JL_nil ?_
      refine seqQ_normal ?_
      refine J_condT rfl ?_
      refine J_region ?_
      refine L_q (Q_move rfl) rfl rfl rfl ?_
      refine L_q (Q_move rfl) rfl rfl rfl ?_
      refine L_o rfl rfl rfl (O_call [0,2,1,3] [4] (fill_ok E d p S R K1 K2 A B e k hp hBl hw3 (by omega) (by omega) hu2 hk1 hk2) rfl rfl ?_)
      rintro _ _ ⟨S', R', K1', K2', A', e', B', hF, rfl, rfl⟩
      refine JL.norm ?_
      refine L_q (Q_assign rfl) rfl rfl rfl ?_
      refine JL_nil ?_
      refine blockQ_normal ?_
      refine blockQ_normal ?_
      rw [← hF.fl] at hu2 hh2 hcl2
      obtain ⟨n1, n2, n3, n4, n5, n6, _⟩ := inner_miss (by simpa using hF.hA) hu2 hF.b hF.a
      have hlo := hF.low
      have hto := hF.top
      refine loopQ_normal (⟨d, e'.1, 4, e'.2, stars (parL p S' R' (K1' ++ K2') (pL A' ++ some e'.1 :: pL B') (A' ++ B') G)⟩, k) ⟨hF.he, fun _ => (by show 1 ≤ 4; decide), n1, by rw [← n6]; exact hh2, (plugX hF.hA hF.hB (by omega) (by omega) hF.hw n5).trans hcl2⟩ (Nat.lt_succ_self d) ⟨rfl, rfl, trivial⟩ Ent.downN
end Go.Proofs
