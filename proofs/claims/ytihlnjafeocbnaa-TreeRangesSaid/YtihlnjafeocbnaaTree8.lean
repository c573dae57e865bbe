/- The first or last pair below a node; a key taken away. -/
import Derived.Test.YtihlnjafeocbnaaTree7
set_option autoImplicit false
namespace Go.Proofs
open Go.SL
theorem flat_last {d : Nat} {K : List Kv} {A : List (T d)} {c : T d} (h : K.length = A.length) : flat (d + 1) (K, A ++ [c]) = preF d K A ++ flat d c := by
  have := flat_at K [] A [] c h
  rw [List.append_nil] at this
  rw [this]; simp [postF, postI]
theorem flat_first {d : Nat} {K : List Kv} {B : List (T d)} {c : T d} : flat (d + 1) (K, c :: B) = flat d c ++ postF d K B := by
  have := flat_at [] K [] B c rfl
  rw [List.nil_append, List.nil_append] at this
  rw [this]; rfl
theorem Ent.foldP {d p : Nat} {S R : SV} {K : List Kv} {A B : List (Nat × T d)} {e : Nat × T d} {G : HProp} : Ent [nodeA d e.1 e.2, stars ((A ++ B).map (ndE d)), ndC p S R, slc tNd true R (pL (A ++ e :: B)), slc tKv true S K, G] [nodeA d e.1 e.2, stars (parL p S R K (pL A ++ some e.1 :: pL B) (A ++ B) G)] := by
  rw [pL_app A B e]
  exact (Ent.re [0, 2, 4, 3, 1, 5] rfl).trans Ent.foldR
section
variable {d : Nat} {K1 K2 : List Kv} {A B : List (T d)} {x y cm : T d} {k u : Ky} {g : Kv} {Z : List Kv}
/-- The key is in the node; the last pair of the child before it takes its place. -/
theorem del_left (hA : K1.length = A.length) (hu : Up (flat (d + 1) (K1 ++ ⟨k, u⟩ :: K2, A ++ x :: y :: B))) (hx : flat d x = Z ++ [g]) :
    Up (flat d x) ∧ hasL (flat d x) g.key = true ∧ delL (flat (d + 1) (K1 ++ ⟨k, u⟩ :: K2, A ++ x :: y :: B)) k = preF d K1 A ++ delL (flat d x) g.key ++ postF d (g :: K2) (y :: B) := by
  have e1 := flat_2 K1 K2 ⟨k, u⟩ A B x y hA
  rw [e1] at hu ⊢
  have h1 := up_app (up_app hu).1
  have h2 := up_mid h1.2
  have hux : Up (flat d x) := h2.2.2.1
  have hux2 := hux
  rw [hx] at hux2
  have h3 := up_mid (Y := []) hux2
  refine ⟨hux, by rw [hx]; exact has_hit g.val, ?_⟩
  have e2 : preF d K1 A ++ (flat d x ++ ⟨k, u⟩ :: flat d y) ++ postF d K2 B = (preF d K1 A ++ flat d x) ++ ⟨k, u⟩ :: (flat d y ++ postF d K2 B) := by simp
  rw [e2] at hu ⊢
  obtain ⟨m1, m2, _, _⟩ := up_mid hu
  have h4 : delL (Z ++ [g]) g.key = Z := by
    have := del_hit (X := Z) (Y := []) (k := g.key) h3.1 (by intro z hz; cases hz) g.val
    rw [List.append_nil] at this
    exact this
  rw [del_hit m1 m2 u, postF_cons, hx, h4]
  simp
theorem del_right (hA : K1.length = A.length) (hu : Up (flat (d + 1) (K1 ++ ⟨k, u⟩ :: K2, A ++ x :: y :: B))) (hy : flat d y = g :: Z) :
    Up (flat d y) ∧ hasL (flat d y) g.key = true ∧ delL (flat (d + 1) (K1 ++ ⟨k, u⟩ :: K2, A ++ x :: y :: B)) k = preF d (K1 ++ [g]) (A ++ [x]) ++ delL (flat d y) g.key ++ postF d K2 B := by
  have e1 := flat_2 K1 K2 ⟨k, u⟩ A B x y hA
  rw [e1] at hu ⊢
  have h1 := up_app (up_app hu).1
  have h2 := up_mid h1.2
  have huy : Up (flat d y) := h2.2.2.2
  have huy2 := huy
  rw [hy] at huy2
  have h3 := up_mid (X := []) huy2
  refine ⟨huy, by rw [hy]; exact has_hit (X := []) g.val, ?_⟩
  have e2 : preF d K1 A ++ (flat d x ++ ⟨k, u⟩ :: flat d y) ++ postF d K2 B = (preF d K1 A ++ flat d x) ++ ⟨k, u⟩ :: (flat d y ++ postF d K2 B) := by simp
  rw [e2] at hu ⊢
  obtain ⟨m1, m2, _, _⟩ := up_mid hu
  have h4 : delL (g :: Z) g.key = Z := by
    have := del_hit (X := []) (Y := Z) (k := g.key) (by intro z hz; cases hz) h3.2.1 g.val
    exact this
  rw [del_hit m1 m2 u, preF_snoc g x K1 A hA, hy, h4]
  simp
theorem del_mid2 (hA : K1.length = A.length) (hu : Up (flat (d + 1) (K1 ++ ⟨k, u⟩ :: K2, A ++ x :: y :: B))) (hc : flat d cm = flat d x ++ ⟨k, u⟩ :: flat d y) :
    Up (flat d cm) ∧ hasL (flat d cm) k = true ∧ delL (flat (d + 1) (K1 ++ ⟨k, u⟩ :: K2, A ++ x :: y :: B)) k = preF d K1 A ++ delL (flat d cm) k ++ postF d K2 B := by
  have e1 := flat_2 K1 K2 ⟨k, u⟩ A B x y hA
  rw [e1] at hu ⊢
  have h1 := up_app (up_app hu).1
  have h2 := up_mid h1.2
  refine ⟨by rw [hc]; exact h1.2, by rw [hc]; exact has_hit u, ?_⟩
  have e2 : preF d K1 A ++ (flat d x ++ ⟨k, u⟩ :: flat d y) ++ postF d K2 B = (preF d K1 A ++ flat d x) ++ ⟨k, u⟩ :: (flat d y ++ postF d K2 B) := by simp
  rw [e2] at hu ⊢
  obtain ⟨m1, m2, _, _⟩ := up_mid hu
  rw [del_hit m1 m2 u, hc, del_hit h2.1 h2.2.1 u]
  simp
end
attribute [local irreducible] J JL QOp JOp seqQ blockQ loopQ retQ slc cel hex star pur stars Does RV Ent pAt scopeQ
attribute [local irreducible] nodeA nodeX treeA
theorem edgeT_ok (E : World) (d0 p0 m0 : Nat) (t0 : T d0) (hw0 : wf m0 d0 t0) (hm0 : 1 ≤ m0) : Does Try.prog E 40 [.pointer (some ⟨p0, 0, none⟩), .bool true] [nodeA d0 p0 t0]
    fun v L => ∃ (Z : List Kv) (g : Kv), flat d0 t0 = Z ++ [g] ∧ v = .agg (kvV g).toArray ∧ L = [nodeA d0 p0 t0] := by
  refine Does.of Try.func40 rfl Try.ntmps40 rfl rfl fun F => ?_
  refine J.norm ?_
  refine J_seq ?_
  refine J_region ?_
  refine L_o rfl rfl rfl (O_alloc fun b4 => ?_)
  refine JL_nil ?_
  refine seqQ_normal ?_
  refine J_seq ?_
  refine J_block ?_
  refine J_loop (fun i : It => wf i.m i.d i.t ∧ 1 ≤ i.m ∧ (∃ Z, flat d0 t0 = Z ++ flat i.d i.t) ∧ Ent [nodeA i.d i.p i.t, i.G] [nodeA d0 p0 t0, F])
    (fun i => [(0, .pointer (some ⟨i.p, 0, none⟩)), (1, .bool true), (4, .pointer (some ⟨b4, 0, none⟩))]) (fun i => [nodeA i.d i.p i.t, cel b4 (kvV ⟨[], []⟩) 48, i.G]) (fun i => i.d) ⟨d0, p0, m0, t0, F⟩ ⟨hw0, hm0, ⟨[], by simp⟩, Ent.refl _⟩ ⟨rfl, rfl, rfl, trivial⟩ (Ent.re [1, 0, 2] rfl) ?_
  rintro ⟨d, p, m, t, G⟩ ⟨hw, hm, ⟨Z, hZ⟩, hcl⟩
  dsimp only at hw hm hZ hcl ⊢
  have hk7 := wf_ks hw
  cases d with
  | zero =>
    refine J.leaf fun S R => ?_
    have ef : flat 0 t = tks 0 t := rfl
    rw [ef] at hZ
    generalize hks : tks 0 t = K at *
    obtain ⟨Ki, g, rfl⟩ := snoc_of (l := K) (by omega)
    have hgl : Ki.length < (Ki ++ [g]).length := by simp
    have hgg : (Ki ++ [g])[Ki.length] = g := get_mid rfl hgl
    have hsb : ((Ki ++ [g]).length : Int) - 1 = (Ki.length : Int) := by simp
    simp only [List.length_append, List.length_singleton] at hk7
    refine J_seq ?_
    refine J_seq ?_
    refine J_region ?_
    refine L_q (Q_move rfl) rfl rfl rfl ?_
    refine L_o rfl rfl rfl (O_call [0,2] [1,3,4] (leaf_ok E p S R []) rfl rfl ?_)
    rintro _ _ ⟨rfl, rfl⟩
    refine JL.norm ?_
    refine L_q ((Q_not rfl).as (v' := .bool false) rfl) rfl rfl rfl ?_
    refine JL_nil ?_
    refine seqQ_normal ?_
    refine J_condF rfl ?_
    refine J_exit ?_
    refine seqQ_exit ?_
    refine loopQ_exit ?_
    refine blockQ_hit ?_
    refine seqQ_normal ?_
    refine J_seq ?_
    refine J_seq ?_
    refine J_region ?_
    refine L_q (Q_move rfl) rfl rfl rfl ?_
    refine JL_nil ?_
    refine seqQ_normal ?_
    refine J_condT rfl ?_
    refine J_seq ?_
    refine J_drawH [0,2] [0, 1, 2, 3, 4, 5, 6, 7, 8, 9, 10, 11] (.quiet 0 (.quiet 1 (.quiet 2 (.quiet 3 (.quiet 4 (.quiet 5 (.quiet 6 (.quiet 7 (.quiet 8 (.quiet 9 (.quiet 10 (.quiet 11 (.loud 12 .done))))))))))))) Try.mixed (by kernel_rfl) (by kernel_rfl) (by repeat (first | exact retQ_noP | refine seqQ_noP ?_ | refine blockQ_noP ?_ | refine loopQ_noP ?_ | refine scopeQ_noP ?_ | (intro _ _ _ h; cases h.1))) ?_
    refine S_q (Ent.re [0,2] rfl) rfl (Q_move rfl) rfl rfl rfl ?_
    refine S_q (Ent.re [0,2] rfl) rfl (Q_nilCheck rfl) rfl rfl rfl ?_
    refine S_q (Ent.re [0,2] rfl) rfl (Q_fa0 rfl) rfl rfl rfl ?_
    refine S_q (Ent.re [0,2] rfl) rfl (Q_ld 0 rfl rfl rfl rfl) rfl rfl rfl ?_
    refine S_q (Ent.re [0,2] rfl) rfl (Q_move rfl) rfl rfl rfl ?_
    refine S_q (Ent.re [0,2] rfl) rfl (Q_nilCheck rfl) rfl rfl rfl ?_
    refine S_q (Ent.re [0,2] rfl) rfl (Q_fa0 rfl) rfl rfl rfl ?_
    refine S_q (Ent.re [0,2] rfl) rfl (Q_ld 0 rfl rfl rfl rfl) rfl rfl rfl ?_
    refine S_q (Ent.re [0,2] rfl) rfl (Q_lenAt 1 rfl rfl) rfl rfl rfl ?_
    refine S_q (Ent.re [0,2] rfl) rfl (Q_sub (r := (Ki.length : Int)) rfl rfl (by rw [hsb]; exact IntWalk.i64_in _ (by omega))) rfl rfl rfl ?_
    refine S_q (Ent.re [0,2] rfl) rfl (Q_ixAt 1 Ki.length rfl rfl rfl rfl hgl rfl) rfl rfl rfl ?_
    refine S_q (Ent.re [0,2] rfl) rfl (Q_ldEAAt 1 Ki.length 0 (vs := kvV g) rfl rfl rfl rfl hgl (by decide) (by rw [hgg]; rfl)) rfl rfl rfl ?_
    refine S_s rfl rfl rfl (O_stW 3 rfl rfl rfl rfl ⟨[], free_no (by kernel_rfl), ?_⟩)
    refine JS.norm ?_
    refine S_nil ?_
    refine seqQ_normal ?_
    refine J_ret ?_
    refine seqQ_ret ?_
    refine retQ_ret _ [nodeA d0 p0 t0] (.cons (RV_cell 3 rfl rfl rfl rfl) .nil) ⟨Z ++ Ki, g, by rw [hZ]; simp, rfl, rfl⟩ ((Ent.re [0, 2, 1, 4] rfl).trans ?_)
    rw [← hks]
    exact Ent.leafA.trans hcl
  | succ d =>
    obtain ⟨K, C⟩ := t
    refine J.inner fun S R es hes => ?_
    obtain ⟨h1, h7, hC, hwc⟩ := hw
    dsimp only at hes h1 h7 hC hwc ⊢
    subst hes
    rw [List.length_map] at hC
    have hlf := leaf_ok E p S R (pL es)
    rw [show decide (((pL es).length : Int) = 0) = false from decide_eq_false (by rw [pL_len]; omega)] at hlf
    obtain ⟨A, e, rfl⟩ := snoc_of (l := es) (by omega)
    have hAK : K.length = A.length := by simp at hC; omega
    have hPl : A.length < (pL (A ++ e :: [])).length := by rw [pL_len]; simp
    have hPg : (pL (A ++ e :: []))[A.length] = some e.1 := mid_get _ A [] e hPl
    have hsb : ((pL (A ++ [e])).length : Int) - 1 = (A.length : Int) := by rw [pL_len]; simp
    have hfl : flat (d + 1) (K, (A ++ [e]).map (·.2)) = preF d K (A.map (·.2)) ++ flat d e.2 := by
      rw [List.map_append]; exact flat_last (by simpa using hAK)
    refine J_seq ?_
    refine J_seq ?_
    refine J_region ?_
    refine L_q (Q_move rfl) rfl rfl rfl ?_
    refine L_o rfl rfl rfl (O_call [0,2] [1,3,4,5] hlf rfl rfl ?_)
    rintro _ _ ⟨rfl, rfl⟩
    refine JL.norm ?_
    refine L_q ((Q_not rfl).as (v' := .bool true) rfl) rfl rfl rfl ?_
    refine JL_nil ?_
    refine seqQ_normal ?_
    refine J_condT rfl ?_
    refine J_skip ?_
    refine seqQ_normal ?_
    refine J_block ?_
    refine J_seq ?_
    refine J_region ?_
    refine L_q (Q_move rfl) rfl rfl rfl ?_
    refine JL_nil ?_
    refine seqQ_normal ?_
    refine J_condT rfl ?_
    refine J_drawH [0,1] [0, 1, 2, 3, 4, 5, 6, 7, 8, 9, 10, 11, 12] (.quiet 0 (.quiet 1 (.quiet 2 (.quiet 3 (.quiet 4 (.quiet 5 (.quiet 6 (.quiet 7 (.quiet 8 (.quiet 9 (.quiet 10 (.quiet 11 (.quiet 12 .done))))))))))))) Try.mixed (by kernel_rfl) (by kernel_rfl) (by repeat (first | exact retQ_noP | refine seqQ_noP ?_ | refine blockQ_noP ?_ | refine loopQ_noP ?_ | refine scopeQ_noP ?_ | (intro _ _ _ h; cases h.1))) ?_
    refine S_q (Ent.re [0,1] rfl) rfl (Q_move rfl) rfl rfl rfl ?_
    refine S_q (Ent.re [0,1] rfl) rfl (Q_nilCheck rfl) rfl rfl rfl ?_
    refine S_q (Ent.re [0,1] rfl) rfl (Q_fa0 rfl) rfl rfl rfl ?_
    refine S_q (Ent.re [0,1] rfl) rfl (Q_ld 0 rfl rfl rfl rfl) rfl rfl rfl ?_
    refine S_q (Ent.re [0,1] rfl) rfl (Q_move rfl) rfl rfl rfl ?_
    refine S_q (Ent.re [0,1] rfl) rfl (Q_nilCheck rfl) rfl rfl rfl ?_
    refine S_q (Ent.re [0,1] rfl) rfl (Q_fa0 rfl) rfl rfl rfl ?_
    refine S_q (Ent.re [0,1] rfl) rfl (Q_ld 0 rfl rfl rfl rfl) rfl rfl rfl ?_
    refine S_q (Ent.re [0,1] rfl) rfl (Q_lenAt 1 rfl rfl) rfl rfl rfl ?_
    refine S_q (Ent.re [0,1] rfl) rfl (Q_sub (r := (A.length : Int)) rfl rfl (by rw [hsb]; exact IntWalk.i64_in _ (by omega))) rfl rfl rfl ?_
    refine S_q (Ent.re [0,1] rfl) rfl (Q_ixAt 1 A.length rfl rfl rfl rfl hPl rfl) rfl rfl rfl ?_
    refine S_q (Ent.re [0,1] rfl) rfl (Q_ldEAt 1 A.length 0 (v := .pointer (some ⟨e.1, 0, none⟩)) rfl rfl rfl rfl hPl (by decide) (by rw [hPg]; rfl)) rfl rfl rfl ?_
    refine S_q (Ent.re [0,1] rfl) rfl (Q_assign rfl) rfl rfl rfl ?_
    refine S_nil ?_
    refine blockQ_normal ?_
    refine loopQ_normal ⟨d, e.1, 3, e.2, stars (parL p S R K (pL A ++ some e.1 :: pL []) (A ++ []) G)⟩ ⟨hwc e.2 (by simp), (by show 1 ≤ 3; decide), ⟨Z ++ preF d K (A.map (·.2)), by rw [hZ, hfl]; simp⟩, Ent.up.trans hcl⟩ (Nat.lt_succ_self d) ⟨rfl, rfl, rfl, trivial⟩ ((Ent.re [0, 2, 1, 3, 4, 5] rfl).trans Ent.down)
theorem edgeF_ok (E : World) (d0 p0 m0 : Nat) (t0 : T d0) (hw0 : wf m0 d0 t0) (hm0 : 1 ≤ m0) : Does Try.prog E 40 [.pointer (some ⟨p0, 0, none⟩), .bool false] [nodeA d0 p0 t0]
    fun v L => ∃ (Z : List Kv) (g : Kv), flat d0 t0 = g :: Z ∧ v = .agg (kvV g).toArray ∧ L = [nodeA d0 p0 t0] := by
  refine Does.of Try.func40 rfl Try.ntmps40 rfl rfl fun F => ?_
  refine J.norm ?_
  refine J_seq ?_
  refine J_region ?_
  refine L_o rfl rfl rfl (O_alloc fun b4 => ?_)
  refine JL_nil ?_
  refine seqQ_normal ?_
  refine J_seq ?_
  refine J_block ?_
  refine J_loop (fun i : It => wf i.m i.d i.t ∧ 1 ≤ i.m ∧ (∃ Z, flat d0 t0 = flat i.d i.t ++ Z) ∧ Ent [nodeA i.d i.p i.t, i.G] [nodeA d0 p0 t0, F])
    (fun i => [(0, .pointer (some ⟨i.p, 0, none⟩)), (1, .bool false), (4, .pointer (some ⟨b4, 0, none⟩))]) (fun i => [nodeA i.d i.p i.t, cel b4 (kvV ⟨[], []⟩) 48, i.G]) (fun i => i.d) ⟨d0, p0, m0, t0, F⟩ ⟨hw0, hm0, ⟨[], by simp⟩, Ent.refl _⟩ ⟨rfl, rfl, rfl, trivial⟩ (Ent.re [1, 0, 2] rfl) ?_
  rintro ⟨d, p, m, t, G⟩ ⟨hw, hm, ⟨Z, hZ⟩, hcl⟩
  dsimp only at hw hm hZ hcl ⊢
  have hk7 := wf_ks hw
  cases d with
  | zero =>
    refine J.leaf fun S R => ?_
    have ef : flat 0 t = tks 0 t := rfl
    rw [ef] at hZ
    generalize hks : tks 0 t = K at *
    obtain ⟨g, Ki, rfl⟩ := cons_of (l := K) (by omega)
    have hgl : 0 < (g :: Ki).length := Nat.succ_pos _
    refine J_seq ?_
    refine J_seq ?_
    refine J_region ?_
    refine L_q (Q_move rfl) rfl rfl rfl ?_
    refine L_o rfl rfl rfl (O_call [0,2] [1,3,4] (leaf_ok E p S R []) rfl rfl ?_)
    rintro _ _ ⟨rfl, rfl⟩
    refine JL.norm ?_
    refine L_q ((Q_not rfl).as (v' := .bool false) rfl) rfl rfl rfl ?_
    refine JL_nil ?_
    refine seqQ_normal ?_
    refine J_condF rfl ?_
    refine J_exit ?_
    refine seqQ_exit ?_
    refine loopQ_exit ?_
    refine blockQ_hit ?_
    refine seqQ_normal ?_
    refine J_seq ?_
    refine J_seq ?_
    refine J_region ?_
    refine L_q (Q_move rfl) rfl rfl rfl ?_
    refine JL_nil ?_
    refine seqQ_normal ?_
    refine J_condF rfl ?_
    refine J_skip ?_
    refine seqQ_normal ?_
    refine J_seq ?_
    refine J_region ?_
    refine L_q (Q_move rfl) rfl rfl rfl ?_
    refine L_q (Q_nilCheck rfl) rfl rfl rfl ?_
    refine L_q (Q_fa0 rfl) rfl rfl rfl ?_
    refine L_q (Q_ld 0 rfl rfl rfl rfl) rfl rfl rfl ?_
    refine L_q (Q_ixAt 2 0 rfl rfl rfl rfl hgl rfl) rfl rfl rfl ?_
    refine L_q (Q_ldEAAt 2 0 0 (vs := kvV g) rfl rfl rfl rfl hgl (by decide) rfl) rfl rfl rfl ?_
    refine L_s rfl rfl (O_stW 3 rfl rfl rfl rfl ?_)
    refine JL.norm ?_
    refine JL_nil ?_
    refine seqQ_normal ?_
    refine J_ret ?_
    refine retQ_ret _ [nodeA d0 p0 t0] (.cons (RV_cell 3 rfl rfl rfl rfl) .nil) ⟨Ki ++ Z, g, by rw [hZ]; simp, rfl, rfl⟩ ((Ent.re [0, 2, 1, 4] rfl).trans ?_)
    rw [← hks]
    exact Ent.leafA.trans hcl
  | succ d =>
    obtain ⟨K, C⟩ := t
    refine J.inner fun S R es hes => ?_
    obtain ⟨h1, h7, hC, hwc⟩ := hw
    dsimp only at hes h1 h7 hC hwc ⊢
    subst hes
    rw [List.length_map] at hC
    have hlf := leaf_ok E p S R (pL es)
    rw [show decide (((pL es).length : Int) = 0) = false from decide_eq_false (by rw [pL_len]; omega)] at hlf
    obtain ⟨e, B, rfl⟩ := cons_of (l := es) (by omega)
    have hPl : 0 < (pL (e :: B)).length := Nat.succ_pos _
    have hfl : flat (d + 1) (K, (e :: B).map (·.2)) = flat d e.2 ++ postF d K (B.map (·.2)) := flat_first
    refine J_seq ?_
    refine J_seq ?_
    refine J_region ?_
    refine L_q (Q_move rfl) rfl rfl rfl ?_
    refine L_o rfl rfl rfl (O_call [0,2] [1,3,4,5] hlf rfl rfl ?_)
    rintro _ _ ⟨rfl, rfl⟩
    refine JL.norm ?_
    refine L_q ((Q_not rfl).as (v' := .bool true) rfl) rfl rfl rfl ?_
    refine JL_nil ?_
    refine seqQ_normal ?_
    refine J_condT rfl ?_
    refine J_skip ?_
    refine seqQ_normal ?_
    refine J_block ?_
    refine J_seq ?_
    refine J_region ?_
    refine L_q (Q_move rfl) rfl rfl rfl ?_
    refine JL_nil ?_
    refine seqQ_normal ?_
    refine J_condF rfl ?_
    refine J_region ?_
    refine L_q (Q_move rfl) rfl rfl rfl ?_
    refine L_q (Q_nilCheck rfl) rfl rfl rfl ?_
    refine L_q (Q_fa0 rfl) rfl rfl rfl ?_
    refine L_q (Q_ld 0 rfl rfl rfl rfl) rfl rfl rfl ?_
    refine L_q (Q_ixAt 1 0 rfl rfl rfl rfl hPl rfl) rfl rfl rfl ?_
    refine L_q (Q_ldEAt 1 0 0 (v := .pointer (some ⟨e.1, 0, none⟩)) rfl rfl rfl rfl hPl (by decide) rfl) rfl rfl rfl ?_
    refine L_q (Q_assign rfl) rfl rfl rfl ?_
    refine JL_nil ?_
    refine blockQ_normal ?_
    refine loopQ_normal ⟨d, e.1, 3, e.2, stars (parL p S R K (pL [] ++ some e.1 :: pL B) ([] ++ B) G)⟩ ⟨hwc e.2 (by simp), (by show 1 ≤ 3; decide), ⟨postF d K (B.map (·.2)) ++ Z, by rw [hZ, hfl]; simp⟩, (Ent.up (A := [])).trans hcl⟩ (Nat.lt_succ_self d) ⟨rfl, rfl, rfl, trivial⟩ ((Ent.re [0, 2, 1, 3, 4, 5] rfl).trans (Ent.down (A := [])))
end Go.Proofs
