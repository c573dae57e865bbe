/- Part 9 of the texts below the row: Tree3. -/
import Derived.Test.YtkglhackgghcfaaGreatM8
/- A pair put below a node. -/
set_option autoImplicit false
namespace Go.Proofs.Bt
open Go.SL
/-- A tree with these pairs. -/
def nodeX (m d p : Nat) (l : List Kv) : HProp := hex fun t : T d => star (pur (wf m d t ∧ flat d t = l)) (nodeA d p t)
theorem Ent.mkX {m d p : Nat} {t : T d} {l : List Kv} {L : List HProp} (hw : wf m d t) (hf : flat d t = l) : Ent (nodeA d p t :: L) (nodeX m d p l :: L) := fun E w h => by
  have h1 : Sat E w (pur (wf m d t ∧ flat d t = l) :: nodeA d p t :: L) := h.lay fun _ => ⟨hw, hf⟩
  exact (h1.mkstar).mkex (f := fun t : T d => star (pur (wf m d t ∧ flat d t = l)) (nodeA d p t)) t
theorem Sat.outX {E w : World} {m d p : Nat} {l : List Kv} {L : List HProp} (h : Sat E w (nodeX m d p l :: L)) : ∃ t : { t : T d // wf m d t ∧ flat d t = l }, Sat E w (nodeA d p t.1 :: L) := by
  obtain ⟨t, ht⟩ := Sat.ex (f := fun t : T d => star (pur (wf m d t ∧ flat d t = l)) (nodeA d p t)) h
  obtain ⟨hm, h2⟩ := ht.star.fact
  exact ⟨⟨t, hm⟩, h2⟩
theorem J.outX {P : Program} {E : World} {n : Nat} {c : Code} {Q : Post} {ρ : Env} {m d p : Nat} {l : List Kv} {L : List HProp} (h : ∀ t : T d, wf m d t → flat d t = l → J P E n c Q ρ (nodeA d p t :: L)) : J P E n c Q ρ (nodeX m d p l :: L) :=
  J.open (fun _ hs => Sat.outX hs) fun t => h t.1 t.2.1 t.2.2
abbrev parL {d : Nat} (p : Nat) (S R : SV) (K : List Kv) (P : List (Option Nat)) (A : List (Nat × T d)) (G : HProp) : List HProp := [ndC p S R, slc tKv true S K, slc tNd true R P, stars (A.map (ndE d)), G]
/-- A child put back into its parent. -/
theorem plugX {m d p q : Nat} {S R : SV} {K1 K2 : List Kv} {A B : List (Nat × T d)} {lc l' : List Kv} {G : HProp} (hA : K1.length = A.length) (hB : K2.length = B.length) (hm : m ≤ K1.length + K2.length) (h7 : K1.length + K2.length ≤ 7) (hw : ∀ e ∈ A ++ B, wf 3 d e.2) (hl : l' = preF d K1 (A.map (·.2)) ++ lc ++ postF d K2 (B.map (·.2))) :
    Ent [nodeX 3 d q lc, stars (parL p S R (K1 ++ K2) (pL A ++ some q :: pL B) (A ++ B) G)] [nodeX m (d + 1) p l', G] := fun E w h => by
  obtain ⟨⟨t, ht, hf⟩, h1⟩ := Sat.outX h
  have h2 : Sat E w ([nodeA d q t] ++ parL p S R (K1 ++ K2) (pL A ++ some q :: pL B) (A ++ B) G) := Sat.unfold (A := [nodeA d q t]) h1
  rw [← pL_app A B (q, t)] at h2
  have e1 : Ent (nodeA d q t :: parL p S R (K1 ++ K2) (pL (A ++ (q, t) :: B)) (A ++ B) G) [nodeA d q t, stars ((A ++ B).map (ndE d)), ndC p S R, slc tKv true S (K1 ++ K2), slc tNd true R (pL (A ++ (q, t) :: B)), G] := Ent.re [0, 4, 1, 2, 3, 5] rfl
  have e2 := e1.trans (Ent.mid_in (ndE d) A (q, t) B)
  have e3 := e2.trans (Ent.re [1, 2, 3, 0, 4] rfl)
  have e4 := e3.trans (Ent.innerA (es := A ++ (q, t) :: B) (C := A.map (·.2) ++ t :: B.map (·.2)) (by simp))
  refine (e4.trans (Ent.mkX (m := m) (l := l') ⟨by simp; omega, by simp; omega, by simp; omega, ?_⟩ ?_)) E w h2
  · intro c hc
    rcases List.mem_append.1 hc with hc | hc
    · obtain ⟨e, he, rfl⟩ := List.mem_map.1 hc
      exact hw e (by simp [he])
    · rcases List.mem_cons.1 hc with rfl | hc
      · exact ht
      · obtain ⟨e, he, rfl⟩ := List.mem_map.1 hc
        exact hw e (by simp [he])
  · rw [flat_at K1 K2 (A.map (·.2)) (B.map (·.2)) t (by simpa using hA), hf, hl]
/-- A child taken out of its parent. -/
theorem Ent.down {d p : Nat} {S R : SV} {K : List Kv} {A B : List (Nat × T d)} {e : Nat × T d} {X G : HProp} : Ent [ndC p S R, slc tKv true S K, slc tNd true R (pL (A ++ e :: B)), stars ((A ++ e :: B).map (ndE d)), X, G] [nodeA d e.1 e.2, X, stars (parL p S R K (pL A ++ some e.1 :: pL B) (A ++ B) G)] := fun E w h => by
  have h1 := (Ent.re [3, 0, 1, 2, 4, 5] rfl : Ent _ [stars ((A ++ e :: B).map (ndE d)), ndC p S R, slc tKv true S K, slc tNd true R (pL (A ++ e :: B)), X, G]) E w h
  have h2 := Ent.mid_out (ndE d) A e B E w h1
  have h3 := (Ent.re [0, 5, 2, 3, 4, 1, 6] rfl : Ent _ [nodeA d e.1 e.2, X, ndC p S R, slc tKv true S K, slc tNd true R (pL (A ++ e :: B)), stars ((A ++ B).map (ndE d)), G]) E w h2
  rw [pL_app] at h3
  exact Sat.fold (A := [nodeA d e.1 e.2, X]) h3
theorem split_at {α : Type} {l : List α} {i : Nat} (h : i < l.length) : ∃ A e B, l = A ++ e :: B ∧ A.length = i := ⟨l.take i, l[i], l.drop (i + 1), by rw [← List.drop_eq_getElem_cons, List.take_append_drop], by simp; omega⟩
theorem hit_split {l : List Kv} (h : Up l) {k : Ky} (hh : hasL l k = true) : ∃ K1 K2 u, l = K1 ++ ⟨k, u⟩ :: K2 ∧ K1.length = posK l k := by
  rcases up_lo_hi h k with ⟨u, hu⟩ | ⟨_, hf⟩
  · exact ⟨lo l k, hi l k, u, hu, rfl⟩
  · rw [hf] at hh; cases hh
theorem miss_split {l : List Kv} (h : Up l) {k : Ky} (hh : hasL l k = false) : ∃ K1 K2, l = K1 ++ K2 ∧ K1.length = posK l k ∧ Bel K1 k ∧ Abv K2 k := by
  rcases up_lo_hi h k with ⟨u, hu⟩ | ⟨hu, _⟩
  · have : hasL l k = true := by rw [hu]; exact has_hit u
    rw [this] at hh; cases hh
  · exact ⟨lo l k, hi l k, hu, rfl, lo_Bel l k, hi_Abv l k⟩
theorem set_mid {α : Type} {X Y : List α} {x y : α} {i : Nat} (h : X.length = i) : (X ++ x :: Y).set i y = X ++ y :: Y := by
  subst h; simp
theorem get_mid {α : Type} {X Y : List α} {x : α} {i : Nat} (h : X.length = i) (h2 : i < (X ++ x :: Y).length) : (X ++ x :: Y)[i] = x := by
  subst h; simp
theorem ins_mid {α : Type} {X Y : List α} {i : Nat} (x : α) (h : X.length = i) : (X ++ Y).take i ++ x :: (X ++ Y).drop i = X ++ x :: Y := by
  subst h; rw [List.take_left, List.drop_left]
/-- The key is in the node itself. -/
theorem inner_hit {d : Nat} {K1 K2 : List Kv} {k u v : Ky} {C : List (T d)} (hC : C.length = K1.length + K2.length + 2) (h : Up (flat (d + 1) (K1 ++ ⟨k, u⟩ :: K2, C))) : flat (d + 1) (K1 ++ ⟨k, v⟩ :: K2, C) = putL (flat (d + 1) (K1 ++ ⟨k, u⟩ :: K2, C)) k v ∧ hasL (flat (d + 1) (K1 ++ ⟨k, u⟩ :: K2, C)) k = true := by
  obtain ⟨A, c, B, rfl, hA⟩ := split_at (l := C) (i := K1.length) (by omega)
  have hB : ∃ c' B', B = c' :: B' := by
    cases B with
    | nil => simp at hC; omega
    | cons c' B' => exact ⟨c', B', rfl⟩
  obtain ⟨c', B', rfl⟩ := hB
  have e : ∀ w : Ky, flat (d + 1) (K1 ++ ⟨k, w⟩ :: K2, A ++ c :: c' :: B') = (preF d K1 A ++ flat d c) ++ ⟨k, w⟩ :: (flat d c' ++ postF d K2 B') := fun w => by
    rw [flat_2 K1 K2 _ A B' c c' hA.symm]; simp
  rw [e] at h
  obtain ⟨h1, h2, _, _⟩ := up_mid h
  rw [e, e]
  exact ⟨(put_hit h1 h2 u v).symm, has_hit u⟩
/-- The key is below a child. -/
theorem inner_miss {d : Nat} {K1 K2 : List Kv} {k : Ky} {A B : List (T d)} {c : T d} (hA : K1.length = A.length) (h : Up (flat (d + 1) (K1 ++ K2, A ++ c :: B))) (h1 : Bel K1 k) (h2 : Abv K2 k) :
    Up (flat d c) ∧ Bel (preF d K1 A) k ∧ Abv (postF d K2 B) k ∧ (∀ v, putL (flat (d + 1) (K1 ++ K2, A ++ c :: B)) k v = preF d K1 A ++ putL (flat d c) k v ++ postF d K2 B) ∧ delL (flat (d + 1) (K1 ++ K2, A ++ c :: B)) k = preF d K1 A ++ delL (flat d c) k ++ postF d K2 B ∧ hasL (flat (d + 1) (K1 ++ K2, A ++ c :: B)) k = hasL (flat d c) k ∧ getL (flat (d + 1) (K1 ++ K2, A ++ c :: B)) k = getL (flat d c) k := by
  rw [flat_at K1 K2 A B c hA] at h ⊢
  obtain ⟨u1, u2⟩ := up_app h
  obtain ⟨u3, u4⟩ := up_app u1
  have hx := pre_bel K1 (A.map (flat d)) u3 h1
  have hy := post_abv K2 (B.map (flat d)) u2 h2
  exact ⟨u4, hx, hy, put_ctx hx hy, del_ctx hx hy, has_ctx hx hy, get_ctx hx hy⟩
structure It where
  d : Nat
  p : Nat
  m : Nat
  t : T d
  G : HProp
attribute [local irreducible] J JL QOp JOp seqQ blockQ loopQ retQ slc cel hex star pur stars Does RV Ent pAt scopeQ
attribute [local irreducible] nodeA nodeX
theorem nput_ok (E : World) (d0 p0 m0 : Nat) (t0 : T d0) (k v : Ky) (hw0 : wf m0 d0 t0) (h60 : (tks d0 t0).length ≤ 6) (hu0 : Up (flat d0 t0)) : Does Tryz.prog E 74 [.pointer (some ⟨p0, 0, none⟩), .agg (kvV ⟨k, v⟩).toArray] [nodeA d0 p0 t0]
    fun r L => r = .bool (!hasL (flat d0 t0) k) ∧ L = [nodeX m0 d0 p0 (putL (flat d0 t0) k v)] := by
  refine Does.of Tryz.func74 rfl Tryz.ntmps74 rfl rfl fun F => ?_
  refine J.norm ?_
  refine J_seq ?_
  refine J_region ?_
  refine L_o rfl rfl rfl (O_box rfl fun b3 => ?_)
  refine L_q (Q_assign rfl) rfl rfl rfl ?_
  refine JL_nil ?_
  refine seqQ_normal ?_
  refine J_block ?_
  refine J_loop (fun i : It => wf i.m i.d i.t ∧ (tks i.d i.t).length ≤ 6 ∧ Up (flat i.d i.t) ∧ hasL (flat i.d i.t) k = hasL (flat d0 t0) k ∧ Ent [nodeX i.m i.d i.p (putL (flat i.d i.t) k v), i.G] [nodeX m0 d0 p0 (putL (flat d0 t0) k v), F])
    (fun i => [(0, .pointer (some ⟨i.p, 0, none⟩)), (3, .pointer (some ⟨b3, 0, none⟩))]) (fun i => [nodeA i.d i.p i.t, cel b3 (kvV ⟨k, v⟩) 77, i.G]) (fun i => i.d) ⟨d0, p0, m0, t0, F⟩ ⟨hw0, h60, hu0, rfl, Ent.refl _⟩ ⟨rfl, rfl, trivial⟩ (Ent.re [1, 0, 2] rfl) ?_
  rintro ⟨d, p, m, t, G⟩ ⟨hw, h6, hu, hh, hcl⟩
  dsimp only at hw h6 hu hh hcl ⊢
  have hku := ks_up hw hu
  have hk7 := (wf_ks hw).2
  cases d with
  | zero =>
    refine J.leaf fun S R => ?_
    have hpl := pos_le (tks 0 t) k
    cases hb : hasL (tks 0 t) k with
    | true =>
      have hb' : hasL (flat 0 t) k = true := hb
      rw [hb'] at hh
      rw [← hh]
      obtain ⟨K1, K2, u, hK, hp⟩ := hit_split hku hb
      have hf := find_ok E p S R (tks 0 t) k (by omega) hku
      rw [hb] at hf
      generalize hks : tks 0 t = K at *
      generalize posK K k = i at *
      subst hK
      have hlt : i < (K1 ++ (⟨k, u⟩ : Kv) :: K2).length := by rw [← hp]; simp
      have hgi := get_mid (x := (⟨k, u⟩ : Kv)) (Y := K2) hp hlt
      have hset := set_mid (x := (⟨k, u⟩ : Kv)) (y := (⟨k, v⟩ : Kv)) (Y := K2) hp
      refine J_block ?_
      refine J_seq ?_
      refine J_region ?_
      refine L_q (Q_move rfl) rfl rfl rfl ?_
      refine L_q (Q_fa0 rfl) rfl rfl rfl ?_
      refine L_q (Q_ld 3 rfl rfl rfl rfl) rfl rfl rfl ?_
      refine L_o rfl rfl rfl (O_call [0,1] [2,3,4] hf rfl rfl ?_)
      rintro _ _ ⟨rfl, rfl⟩
      refine JL.norm ?_
      refine L_q (Q_move rfl) rfl rfl rfl ?_
      refine L_q (Q_extract (v := .int .i64 (i : Int)) rfl rfl) rfl rfl rfl ?_
      refine L_q (Q_extract (v := .bool true) rfl rfl) rfl rfl rfl ?_
      refine L_q (Q_assign rfl) rfl rfl rfl ?_
      refine L_q (Q_assign rfl) rfl rfl rfl ?_
      refine JL_nil ?_
      refine seqQ_normal ?_
      refine J_seq ?_
      refine J_seq ?_
      refine J_region ?_
      refine L_q (Q_move rfl) rfl rfl rfl ?_
      refine JL_nil ?_
      refine seqQ_normal ?_
      refine J_condT rfl ?_
      refine J_seq ?_
      refine J_drawH [0,3,1] [0, 1, 2, 3, 4, 5, 6, 7, 8] (.quiet 0 (.quiet 1 (.quiet 2 (.quiet 3 (.quiet 4 (.quiet 5 (.quiet 6 (.quiet 7 (.quiet 8 (.loud 9 .done)))))))))) Tryz.mixed (by kernel_rfl) (by kernel_rfl) (by repeat (first | exact retQ_noP | refine seqQ_noP ?_ | refine blockQ_noP ?_ | refine loopQ_noP ?_ | refine scopeQ_noP ?_ | (intro _ _ _ h; cases h.1))) ?_
      refine S_q (Ent.re [0,3,1] rfl) rfl (Q_move rfl) rfl rfl rfl ?_
      refine S_q (Ent.re [0,3,1] rfl) rfl (Q_nilCheck rfl) rfl rfl rfl ?_
      refine S_q (Ent.re [0,3,1] rfl) rfl (Q_fa0 rfl) rfl rfl rfl ?_
      refine S_q (Ent.re [0,3,1] rfl) rfl (Q_ld 0 rfl rfl rfl rfl) rfl rfl rfl ?_
      refine S_q (Ent.re [0,3,1] rfl) rfl (Q_move rfl) rfl rfl rfl ?_
      refine S_q (Ent.re [0,3,1] rfl) rfl (Q_fa0 rfl) rfl rfl rfl ?_
      refine S_q (Ent.re [0,3,1] rfl) rfl (Q_ld 1 rfl rfl rfl rfl) rfl rfl rfl ?_
      refine S_q (Ent.re [0,3,1] rfl) rfl (Q_ixAt 2 i rfl rfl rfl rfl hlt rfl) rfl rfl rfl ?_
      refine S_q (Ent.re [0,3,1] rfl) rfl (Q_pfa rfl) rfl rfl rfl ?_
      refine S_s rfl rfl rfl (O_stE 1 i 1 ⟨k, v⟩ rfl rfl rfl rfl rfl rfl (by simp [Value.oneCell', Value.cells]) hlt (Nat.le_refl 2) (by rw [hgi]; rfl) ⟨[], free_no (by kernel_rfl), ?_⟩)
      refine JS.norm ?_
      refine S_nil ?_
      refine seqQ_normal ?_
      refine J_seq ?_
      rw [hset]
      refine J_region ?_
      refine L_q (Q_assign rfl) rfl rfl rfl ?_
      refine JL_nil ?_
      refine seqQ_normal ?_
      refine J_ret ?_
      refine seqQ_ret ?_
      refine blockQ_ret ?_
      refine loopQ_ret ?_
      refine blockQ_ret ?_
      have hw2 : m ≤ (K1 ++ (⟨k, u⟩ : Kv) :: K2).length ∧ (K1 ++ (⟨k, u⟩ : Kv) :: K2).length ≤ 7 := by rw [← hks]; exact hw
      obtain ⟨m1, m2, _, _⟩ := up_mid hku
      have hfl : flat 0 (K1 ++ (⟨k, v⟩ : Kv) :: K2 : List Kv) = putL (flat 0 t) k v := by
        show K1 ++ (⟨k, v⟩ : Kv) :: K2 = putL (tks 0 t) k v
        rw [hks]; exact (put_hit m1 m2 u v).symm
      exact retQ_ret _ [nodeX m0 d0 p0 (putL (flat d0 t0) k v)] (.cons (RV_tmp rfl) .nil) ⟨rfl, rfl⟩ ((Ent.re [0, 1, 2, 4] rfl).trans ((Ent.leafA (t := (K1 ++ (⟨k, v⟩ : Kv) :: K2 : List Kv))).trans ((Ent.mkX (show wf m 0 (K1 ++ (⟨k, v⟩ : Kv) :: K2 : List Kv) from ⟨by simpa using hw2.1, by simpa using hw2.2⟩) hfl).trans hcl)))
    | false =>
      have hb' : hasL (flat 0 t) k = false := hb
      rw [hb'] at hh
      rw [← hh]
      obtain ⟨K1, K2, hK, hp, hk1, hk2⟩ := miss_split hku hb
      have hf := find_ok E p S R (tks 0 t) k (by omega) hku
      rw [hb] at hf
      generalize hks : tks 0 t = K at *
      generalize posK K k = i at *
      subst hK
      have hins := ins_mid (Y := K2) (⟨k, v⟩ : Kv) hp
      have hlen : (K1 ++ K2).length = K1.length + K2.length := by simp
      refine J_block ?_
      refine J_seq ?_
      refine J_region ?_
      refine L_q (Q_move rfl) rfl rfl rfl ?_
      refine L_q (Q_fa0 rfl) rfl rfl rfl ?_
      refine L_q (Q_ld 3 rfl rfl rfl rfl) rfl rfl rfl ?_
      refine L_o rfl rfl rfl (O_call [0,1] [2,3,4] hf rfl rfl ?_)
      rintro _ _ ⟨rfl, rfl⟩
      refine JL.norm ?_
      refine L_q (Q_move rfl) rfl rfl rfl ?_
      refine L_q (Q_extract (v := .int .i64 (i : Int)) rfl rfl) rfl rfl rfl ?_
      refine L_q (Q_extract (v := .bool false) rfl rfl) rfl rfl rfl ?_
      refine L_q (Q_assign rfl) rfl rfl rfl ?_
      refine L_q (Q_assign rfl) rfl rfl rfl ?_
      refine JL_nil ?_
      refine seqQ_normal ?_
      refine J_seq ?_
      refine J_seq ?_
      refine J_region ?_
      refine L_q (Q_move rfl) rfl rfl rfl ?_
      refine JL_nil ?_
      refine seqQ_normal ?_
      refine J_condF rfl ?_
      refine J_skip ?_
      refine seqQ_normal ?_
      refine J_seq ?_
      refine J_seq ?_
      refine J_region ?_
      refine L_q (Q_move rfl) rfl rfl rfl ?_
      refine L_o rfl rfl rfl (O_call [0,2] [1,3,4] (leaf_ok E p S R []) rfl rfl ?_)
      rintro _ _ ⟨rfl, rfl⟩
      refine JL.norm ?_
      refine JL_nil ?_
      refine seqQ_normal ?_
      refine J_condT rfl ?_
      refine J_seq ?_
      refine J_drawH [0,3] [0, 1, 2, 3, 4, 5, 6, 9, 10] (.quiet 0 (.quiet 1 (.quiet 2 (.quiet 3 (.quiet 4 (.quiet 5 (.quiet 6 (.loud 7 (.loud 8 (.quiet 9 (.quiet 10 (.loud 11 .done)))))))))))) Tryz.mixed (by kernel_rfl) (by kernel_rfl) (by repeat (first | exact retQ_noP | refine seqQ_noP ?_ | refine blockQ_noP ?_ | refine loopQ_noP ?_ | refine scopeQ_noP ?_ | (intro _ _ _ h; cases h.1))) ?_
      refine S_q (Ent.re [0,3] rfl) rfl (Q_move rfl) rfl rfl rfl ?_
      refine S_q (Ent.re [0,3] rfl) rfl (Q_move rfl) rfl rfl rfl ?_
      refine S_q (Ent.re [0,3] rfl) rfl (Q_nilCheck rfl) rfl rfl rfl ?_
      refine S_q (Ent.re [0,3] rfl) rfl (Q_fa0 rfl) rfl rfl rfl ?_
      refine S_q (Ent.re [0,3] rfl) rfl (Q_ld 0 rfl rfl rfl rfl) rfl rfl rfl ?_
      refine S_q (Ent.re [0,3] rfl) rfl (Q_move rfl) rfl rfl rfl ?_
      refine S_q (Ent.re [0,3] rfl) rfl (Q_ldA 1 rfl rfl rfl) rfl rfl rfl ?_
      refine S_o rfl rfl rfl rfl (O_litN (τ := tKv) (m := 1) (sz := 2) [⟨k, v⟩] rfl rfl rfl rfl rfl rfl (by decide) (by decide) (fun U => ⟨_, fun _ => ⟨Ent.reN [1,4] rfl, Ent.refl _⟩, ?_⟩))
      refine JS.norm ?_
      refine S_o rfl rfl rfl rfl (O_call [3,0] [1,2,4,5] (kvins_ok E S U (K1 ++ K2) ⟨k, v⟩ i hpl (by omega)) rfl rfl ?_)
      (rintro _ _ ⟨S2, rfl, rfl⟩; refine ⟨_, fun _ => ⟨Ent.reN [1,3] rfl, Ent.refl _⟩, ?_⟩)
      refine JS.norm ?_
      refine S_q (Ent.re [1,3] rfl) rfl (Q_nilCheck rfl) rfl rfl rfl ?_
      refine S_q (Ent.re [1,3] rfl) rfl (Q_fa0 rfl) rfl rfl rfl ?_
      refine S_s rfl rfl rfl (O_st1 1 rfl rfl rfl rfl rfl ⟨[], free_no (by kernel_rfl), ?_⟩)
      refine JS.norm ?_
      refine S_nil ?_
      refine seqQ_normal ?_
      refine J_seq ?_
      rw [hins]
      refine J_region ?_
      refine L_q (Q_assign rfl) rfl rfl rfl ?_
      refine JL_nil ?_
      refine seqQ_normal ?_
      refine J_ret ?_
      refine seqQ_ret ?_
      refine blockQ_ret ?_
      refine loopQ_ret ?_
      refine blockQ_ret ?_
      have hw2 : m ≤ (K1 ++ K2).length ∧ (K1 ++ K2).length ≤ 7 := by rw [← hks]; exact hw
      have hfl : flat 0 (K1 ++ (⟨k, v⟩ : Kv) :: K2 : List Kv) = putL (flat 0 t) k v := by
        show K1 ++ (⟨k, v⟩ : Kv) :: K2 = putL (tks 0 t) k v
        rw [hks]; exact (put_miss hk1 hk2 v).symm
      exact retQ_ret _ [nodeX m0 d0 p0 (putL (flat d0 t0) k v)] (.cons (RV_tmp rfl) .nil) ⟨rfl, rfl⟩ ((Ent.re [1, 0, 2, 4] rfl).trans ((Ent.leafA (t := (K1 ++ (⟨k, v⟩ : Kv) :: K2 : List Kv))).trans ((Ent.mkX (show wf m 0 (K1 ++ (⟨k, v⟩ : Kv) :: K2 : List Kv) from ⟨by simp; omega, by simp; omega⟩) hfl).trans hcl)))
  | succ d =>
    obtain ⟨Kt, C⟩ := t
    refine J.inner fun S R es hes => ?_
    dsimp only at hes ⊢
    have h6 : Kt.length ≤ 6 := h6
    have hku : Up Kt := hku
    obtain ⟨hwm, hw7, hwC, hwc⟩ := hw
    dsimp only at hwm hw7 hwC hwc
    have hpl := pos_le Kt k
    have hel : es.length = Kt.length + 1 := by rw [← hwC, ← hes, List.length_map]
    cases hb : hasL Kt k with
    | true =>
      obtain ⟨K1, K2, u, hK, hp⟩ := hit_split hku hb
      have hf := find_ok E p S R Kt k (by omega) hku
      rw [hb] at hf
      generalize posK Kt k = i at *
      subst hK
      have hlt : i < (K1 ++ (⟨k, u⟩ : Kv) :: K2).length := by rw [← hp]; simp
      have hgi := get_mid (x := (⟨k, u⟩ : Kv)) (Y := K2) hp hlt
      have hset := set_mid (x := (⟨k, u⟩ : Kv)) (y := (⟨k, v⟩ : Kv)) (Y := K2) hp
      obtain ⟨hfl, hhs⟩ := inner_hit (v := v) (by simp at hwC; omega) hu
      rw [hhs] at hh
      rw [← hh]
      refine J_block ?_
      refine J_seq ?_
      refine J_region ?_
      refine L_q (Q_move rfl) rfl rfl rfl ?_
      refine L_q (Q_fa0 rfl) rfl rfl rfl ?_
      refine L_q (Q_ld 4 rfl rfl rfl rfl) rfl rfl rfl ?_
      refine L_o rfl rfl rfl (O_call [0,1] [2,3,4,5] hf rfl rfl ?_)
      rintro _ _ ⟨rfl, rfl⟩
      refine JL.norm ?_
      refine L_q (Q_move rfl) rfl rfl rfl ?_
      refine L_q (Q_extract (v := .int .i64 (i : Int)) rfl rfl) rfl rfl rfl ?_
      refine L_q (Q_extract (v := .bool true) rfl rfl) rfl rfl rfl ?_
      refine L_q (Q_assign rfl) rfl rfl rfl ?_
      refine L_q (Q_assign rfl) rfl rfl rfl ?_
      refine JL_nil ?_
      refine seqQ_normal ?_
      refine J_seq ?_
      refine J_seq ?_
      refine J_region ?_
      refine L_q (Q_move rfl) rfl rfl rfl ?_
      refine JL_nil ?_
      refine seqQ_normal ?_
      refine J_condT rfl ?_
      refine J_seq ?_
      refine J_drawH [0,4,1] [0, 1, 2, 3, 4, 5, 6, 7, 8] (.quiet 0 (.quiet 1 (.quiet 2 (.quiet 3 (.quiet 4 (.quiet 5 (.quiet 6 (.quiet 7 (.quiet 8 (.loud 9 .done)))))))))) Tryz.mixed (by kernel_rfl) (by kernel_rfl) (by repeat (first | exact retQ_noP | refine seqQ_noP ?_ | refine blockQ_noP ?_ | refine loopQ_noP ?_ | refine scopeQ_noP ?_ | (intro _ _ _ h; cases h.1))) ?_
      refine S_q (Ent.re [0,4,1] rfl) rfl (Q_move rfl) rfl rfl rfl ?_
      refine S_q (Ent.re [0,4,1] rfl) rfl (Q_nilCheck rfl) rfl rfl rfl ?_
      refine S_q (Ent.re [0,4,1] rfl) rfl (Q_fa0 rfl) rfl rfl rfl ?_
      refine S_q (Ent.re [0,4,1] rfl) rfl (Q_ld 0 rfl rfl rfl rfl) rfl rfl rfl ?_
      refine S_q (Ent.re [0,4,1] rfl) rfl (Q_move rfl) rfl rfl rfl ?_
      refine S_q (Ent.re [0,4,1] rfl) rfl (Q_fa0 rfl) rfl rfl rfl ?_
      refine S_q (Ent.re [0,4,1] rfl) rfl (Q_ld 1 rfl rfl rfl rfl) rfl rfl rfl ?_
      refine S_q (Ent.re [0,4,1] rfl) rfl (Q_ixAt 2 i rfl rfl rfl rfl hlt rfl) rfl rfl rfl ?_
      refine S_q (Ent.re [0,4,1] rfl) rfl (Q_pfa rfl) rfl rfl rfl ?_
      refine S_s rfl rfl rfl (O_stE 1 i 1 ⟨k, v⟩ rfl rfl rfl rfl rfl rfl (by simp [Value.oneCell', Value.cells]) hlt (Nat.le_refl 2) (by rw [hgi]; rfl) ⟨[], free_no (by kernel_rfl), ?_⟩)
      refine JS.norm ?_
      refine S_nil ?_
      refine seqQ_normal ?_
      refine J_seq ?_
      rw [hset]
      refine J_region ?_
      refine L_q (Q_assign rfl) rfl rfl rfl ?_
      refine JL_nil ?_
      refine seqQ_normal ?_
      refine J_ret ?_
      refine seqQ_ret ?_
      refine blockQ_ret ?_
      refine loopQ_ret ?_
      refine blockQ_ret ?_
      exact retQ_ret _ [nodeX m0 d0 p0 (putL (flat d0 t0) k v)] (.cons (RV_tmp rfl) .nil) ⟨rfl, rfl⟩ ((Ent.re [0, 1, 2, 3, 5] rfl).trans ((Ent.innerA hes).trans ((Ent.mkX (show wf m (d + 1) (K1 ++ (⟨k, v⟩ : Kv) :: K2, C) from ⟨by simpa using hwm, by simpa using hw7, by simpa using hwC, hwc⟩) hfl).trans hcl)))
    | false =>
      obtain ⟨K1, K2, hK, hp, hk1, hk2⟩ := miss_split hku hb
      have hf := find_ok E p S R Kt k (by omega) hku
      rw [hb] at hf
      generalize posK Kt k = i at *
      subst hK
      have hlen : (K1 ++ K2).length = K1.length + K2.length := by simp
      obtain ⟨A, e, B, rfl, hAi⟩ := split_at (l := es) (i := i) (by omega)
      subst hAi
      have hel2 : (A ++ e :: B).length = A.length + B.length + 1 := by simp; omega
      have hBl : K2.length = B.length := by omega
      subst hes
      have hwe : wf 3 d e.2 := hwc e.2 (by simp)
      have hwAB : ∀ x ∈ A ++ B, wf 3 d x.2 := fun x hx => hwc x.2 (by
        rcases List.mem_append.1 hx with hx | hx
        · simp only [List.map_append, List.mem_append]; exact .inl (List.mem_map_of_mem hx)
        · simp only [List.map_append, List.map_cons, List.mem_append, List.mem_cons]; exact .inr (.inr (List.mem_map_of_mem hx)))
      simp only [List.map_append, List.map_cons] at hu hh hcl hwC
      obtain ⟨n1, n2, n3, n4, _, n6, _⟩ := inner_miss (by simpa using hp) hu hk1 hk2
      have hPlt : A.length < (pL (A ++ e :: B)).length := by rw [pL_len]; simp
      have hPg : (pL (A ++ e :: B))[A.length] = some e.1 := mid_get _ A B e hPlt
      have hlf := leaf_ok E p S R (pL (A ++ e :: B))
      rw [show decide (((pL (A ++ e :: B)).length : Int) = 0) = false from decide_eq_false (by rw [pL_len]; simp; omega)] at hlf
      refine J_block ?_
      refine J_seq ?_
      refine J_region ?_
      refine L_q (Q_move rfl) rfl rfl rfl ?_
      refine L_q (Q_fa0 rfl) rfl rfl rfl ?_
      refine L_q (Q_ld 4 rfl rfl rfl rfl) rfl rfl rfl ?_
      refine L_o rfl rfl rfl (O_call [0,1] [2,3,4,5] hf rfl rfl ?_)
      rintro _ _ ⟨rfl, rfl⟩
      refine JL.norm ?_
      refine L_q (Q_move rfl) rfl rfl rfl ?_
      refine L_q (Q_extract (v := .int .i64 (A.length : Int)) rfl rfl) rfl rfl rfl ?_
      refine L_q (Q_extract (v := .bool false) rfl rfl) rfl rfl rfl ?_
      refine L_q (Q_assign rfl) rfl rfl rfl ?_
      refine L_q (Q_assign rfl) rfl rfl rfl ?_
      refine JL_nil ?_
      refine seqQ_normal ?_
      refine J_seq ?_
      refine J_seq ?_
      refine J_region ?_
      refine L_q (Q_move rfl) rfl rfl rfl ?_
      refine JL_nil ?_
      refine seqQ_normal ?_
      refine J_condF rfl ?_
      refine J_skip ?_
      refine seqQ_normal ?_
      refine J_seq ?_
      refine J_seq ?_
      refine J_region ?_
      refine L_q (Q_move rfl) rfl rfl rfl ?_
      refine L_o rfl rfl rfl (O_call [0,2] [1,3,4,5] hlf rfl rfl ?_)
      rintro _ _ ⟨rfl, rfl⟩
      refine JL.norm ?_
      refine JL_nil ?_
      refine seqQ_normal ?_
      refine J_condF rfl ?_
      refine J_skip ?_
      refine seqQ_normal ?_
      refine J_seq ?_
      refine J_seq ?_
      refine J.ent ((Ent.re [3, 0, 1, 2, 4, 5] rfl).trans (Ent.mid_out (ndE d) A e B)) ?_
      refine J.peek fun Sc Rc X hX => ?_
      have hclose : Ent (ndC e.1 Sc Rc :: slc tKv true Sc (tks d e.2) :: X :: stars ((A ++ B).map (ndE d)) :: ndC p S R :: slc tNd true R (pL (A ++ e :: B)) :: slc tKv true S (K1 ++ K2) :: cel b3 (kvV ⟨k, v⟩) 77 :: G :: []) [ndC p S R, slc tKv true S (K1 ++ K2), slc tNd true R (pL (A ++ e :: B)), stars ((A ++ e :: B).map (ndE d)), cel b3 (kvV ⟨k, v⟩) 77, G] := ((hX _).trans (Ent.mid_in (ndE d) A e B)).trans (Ent.re [1, 3, 2, 0, 4, 5] rfl)
      by_cases h7 : (tks d e.2).length = 7
      · skip
        refine J_region ?_
        refine L_q (Q_move rfl) rfl rfl rfl ?_
        refine L_q (Q_nilCheck rfl) rfl rfl rfl ?_
        refine L_q (Q_fa0 rfl) rfl rfl rfl ?_
        refine L_q (Q_ld 4 rfl rfl rfl rfl) rfl rfl rfl ?_
        refine L_q (Q_move rfl) rfl rfl rfl ?_
        refine L_q (Q_ixAt 5 A.length rfl rfl rfl rfl hPlt rfl) rfl rfl rfl ?_
        refine L_q (Q_ldEAt 5 A.length 0 (v := .pointer (some ⟨e.1, 0, none⟩)) rfl rfl rfl rfl hPlt (by decide) (by rw [hPg]; rfl)) rfl rfl rfl ?_
        refine L_q (Q_nilCheck rfl) rfl rfl rfl ?_
        refine L_q (Q_fa0 rfl) rfl rfl rfl ?_
        refine L_q (Q_ld 0 rfl rfl rfl rfl) rfl rfl rfl ?_
        refine L_q (Q_lenAt 1 rfl rfl) rfl rfl rfl ?_
        refine L_q ((Q_eql rfl rfl).as (v' := .bool true) (congrArg Value.bool (decide_eq_true (by omega)))) rfl rfl rfl ?_
        refine JL_nil ?_
        refine seqQ_normal ?_
        refine J_condT rfl ?_
        refine J_seq ?_
        refine J.ent hclose ?_
        obtain ⟨g1, g2, g3, g4, g5⟩ := spL_ok hwe h7
        refine J_region ?_
        refine L_q (Q_move rfl) rfl rfl rfl ?_
        refine L_q (Q_move rfl) rfl rfl rfl ?_
        refine L_o rfl rfl rfl (O_call [0,1,2,3] [4,5] (split_ok E d p S R K1 K2 A B e hp h7 hwe (by omega) (by omega)) rfl rfl ?_)
        rintro _ _ ⟨rfl, S2, R2, q, rfl⟩
        refine JL.norm ?_
        refine JL_nil ?_
        refine seqQ_normal ?_
        refine J_seq ?_
        generalize (tks d e.2)[3] = mid at *
        generalize (spL d e.2).1 = c1 at *
        generalize (spL d e.2).2 = c2 at *
        have hflat : flat (d + 1) (K1 ++ K2, A.map (·.2) ++ e.2 :: B.map (·.2)) = flat (d + 1) (K1 ++ mid :: K2, A.map (·.2) ++ c1 :: c2 :: B.map (·.2)) := by
          rw [flat_at K1 K2 _ _ e.2 (by simpa using hp), flat_2 K1 K2 mid _ _ c1 c2 (by simpa using hp), g1]
        rw [hflat] at hu hh hcl
        have hlt : A.length < (K1 ++ mid :: K2).length := by simp; omega
        have hgi := get_mid (x := mid) (Y := K2) hp hlt
        have hcm := compare_ok E mid.key k
        have hw3 : ∀ x ∈ A ++ (e.1, c1) :: (q, c2) :: B, wf 3 d x.2 := fun x hx => by
          rcases List.mem_append.1 hx with hx | hx
          · exact hwAB x (by simp [hx])
          · rcases List.mem_cons.1 hx with rfl | hx
            · exact g2
            · rcases List.mem_cons.1 hx with rfl | hx
              · exact g3
              · exact hwAB x (by simp [hx])
        rcases kl_tri mid.key k with hk | hk | hk
        · rw [cmp_kl, if_pos hk] at hcm
          refine J_drawH [0,1,4] [0, 1, 2, 3, 4, 5, 6, 7, 8, 9, 11] (.quiet 0 (.quiet 1 (.quiet 2 (.quiet 3 (.quiet 4 (.quiet 5 (.quiet 6 (.quiet 7 (.quiet 8 (.quiet 9 (.loud 10 (.quiet 11 .done)))))))))))) Tryz.mixed (by kernel_rfl) (by kernel_rfl) (by repeat (first | exact retQ_noP | refine seqQ_noP ?_ | refine blockQ_noP ?_ | refine loopQ_noP ?_ | refine scopeQ_noP ?_ | (intro _ _ _ h; cases h.1))) ?_
          refine S_q (Ent.re [0,1,4] rfl) rfl (Q_move rfl) rfl rfl rfl ?_
          refine S_q (Ent.re [0,1,4] rfl) rfl (Q_nilCheck rfl) rfl rfl rfl ?_
          refine S_q (Ent.re [0,1,4] rfl) rfl (Q_fa0 rfl) rfl rfl rfl ?_
          refine S_q (Ent.re [0,1,4] rfl) rfl (Q_ld 0 rfl rfl rfl rfl) rfl rfl rfl ?_
          refine S_q (Ent.re [0,1,4] rfl) rfl (Q_move rfl) rfl rfl rfl ?_
          refine S_q (Ent.re [0,1,4] rfl) rfl (Q_ixAt 1 A.length rfl rfl rfl rfl hlt rfl) rfl rfl rfl ?_
          refine S_q (Ent.re [0,1,4] rfl) rfl (Q_pfa rfl) rfl rfl rfl ?_
          refine S_q (Ent.re [0,1,4] rfl) rfl (Q_ldEAt 1 A.length 0 (v := str mid.key) rfl rfl rfl rfl hlt (by decide) (by rw [hgi]; rfl)) rfl rfl rfl ?_
          refine S_q (Ent.re [0,1,4] rfl) rfl (Q_fa0 rfl) rfl rfl rfl ?_
          refine S_q (Ent.re [0,1,4] rfl) rfl (Q_ld 2 rfl rfl rfl rfl) rfl rfl rfl ?_
          refine S_o rfl rfl rfl rfl (O_call [] [0,1,2,3,4,5] hcm rfl rfl ?_)
          (rintro _ _ ⟨rfl, rfl⟩; refine ⟨_, fun _ => ⟨Ent.reN [0,1,4] rfl, Ent.refl _⟩, ?_⟩)
          refine JS.norm ?_
          refine S_q (Ent.re [0,1,4] rfl) rfl (Q_assign rfl) rfl rfl rfl ?_
          refine S_nil ?_
          refine seqQ_normal ?_
          refine J_block ?_
          refine J_seq ?_
          refine J_region ?_
          refine L_q (Q_move rfl) rfl rfl rfl ?_
          refine L_q ((Q_eql rfl rfl).as (v' := .bool false) rfl) rfl rfl rfl ?_
          refine L_q (Q_assign rfl) rfl rfl rfl ?_
          refine JL_nil ?_
          refine seqQ_normal ?_
          refine J_condF rfl ?_
          refine J_seq ?_
          refine J_region ?_
          refine L_q (Q_move rfl) rfl rfl rfl ?_
          refine L_q ((Q_lss rfl rfl).as (v' := .bool true) rfl) rfl rfl rfl ?_
          refine L_q (Q_assign rfl) rfl rfl rfl ?_
          refine JL_nil ?_
          refine seqQ_normal ?_
          refine J_condT rfl ?_
          refine J_region ?_
          refine L_q (Q_move rfl) rfl rfl rfl ?_
          refine L_q (Q_add rfl rfl (by first | exact IntWalk.i64_in _ (by omega) | exact IntWalk.u8_in _ (by omega) | exact IntWalk.u32_in _ (by omega) | exact IntWalk.u64_in _ (by omega) | rfl)) rfl rfl rfl ?_
          refine L_q (Q_assign rfl) rfl rfl rfl ?_
          refine JL_nil ?_
          refine blockQ_normal ?_
          refine seqQ_normal ?_
          have eK : K1 ++ mid :: K2 = (K1 ++ [mid]) ++ K2 := by simp
          have eA : A ++ (e.1, c1) :: (q, c2) :: B = (A ++ [(e.1, c1)]) ++ (q, c2) :: B := by simp
          have eC : A.map (·.2) ++ c1 :: c2 :: B.map (·.2) = (A ++ [(e.1, c1)]).map (·.2) ++ c2 :: B.map (·.2) := by simp
          rw [eK, eC] at hu hh hcl
          rw [eK, eA]
          rw [eA] at hw3
          have hp2 : (K1 ++ [mid]).length = (A ++ [(e.1, c1)]).length := by simp [hp]
          obtain ⟨n1, n2, n3, n4, _, n6, _⟩ := inner_miss (by simpa using hp2) hu (fun x hx => by
            rcases List.mem_append.1 hx with hx | hx
            · exact hk1 x hx
            · rw [List.mem_singleton] at hx; rw [hx]; exact hk) hk2
          have hPlt2 : A.length + 1 < (pL ((A ++ [(e.1, c1)]) ++ (q, c2) :: B)).length := by rw [pL_len]; simp
          have hPg2 : (pL ((A ++ [(e.1, c1)]) ++ (q, c2) :: B))[A.length + 1] = some q := by
            have h := mid_get (fun x : Nat × T d => some x.1) (A ++ [(e.1, c1)]) B (q, c2) (by simp)
            simp only [List.length_append, List.length_singleton] at h
            exact h
          refine J_region ?_
          refine L_q (Q_move rfl) rfl rfl rfl ?_
          refine L_q (Q_nilCheck rfl) rfl rfl rfl ?_
          refine L_q (Q_fa0 rfl) rfl rfl rfl ?_
          refine L_q (Q_ld 0 rfl rfl rfl rfl) rfl rfl rfl ?_
          refine L_q (Q_move rfl) rfl rfl rfl ?_
          refine L_q (Q_ixAt 2 (A.length + 1) rfl rfl rfl rfl hPlt2 rfl) rfl rfl rfl ?_
          refine L_q (Q_ldEAt 2 (A.length + 1) 0 (v := .pointer (some ⟨q, 0, none⟩)) rfl rfl rfl rfl hPlt2 (by decide) (by rw [hPg2]; rfl)) rfl rfl rfl ?_
          refine L_q (Q_assign rfl) rfl rfl rfl ?_
          refine JL_nil ?_
          refine blockQ_normal ?_
          refine loopQ_normal ⟨d, q, 3, c2, stars (parL p S2 R2 ((K1 ++ [mid]) ++ K2) (pL (A ++ [(e.1, c1)]) ++ some q :: pL B) ((A ++ [(e.1, c1)]) ++ B) G)⟩ ⟨g3, by show (tks d c2).length ≤ 6; omega, n1, by rw [← n6]; exact hh, (plugX hp2 hBl (by simp; omega) (by simp; omega) (fun x hx => hw3 x (by
            rcases List.mem_append.1 hx with hx | hx
            · exact List.mem_append_left _ hx
            · exact List.mem_append_right _ (List.mem_cons_of_mem _ hx))) (n4 v)).trans hcl⟩ (Nat.lt_succ_self d) ⟨rfl, rfl, trivial⟩ Ent.down
        · rw [cmp_kl, hk, kl_irr, if_neg (by simp), if_neg (by simp)] at hcm
          obtain ⟨mk, mv⟩ := mid
          dsimp only at hk
          subst hk
          have hset := set_mid (x := (⟨mk, mv⟩ : Kv)) (y := (⟨mk, v⟩ : Kv)) (Y := K2) hp
          obtain ⟨hfl, hhs⟩ := inner_hit (v := v) (by simp; omega) hu
          rw [hhs] at hh
          rw [← hh]
          refine J_drawH [0,1,4] [0, 1, 2, 3, 4, 5, 6, 7, 8, 9, 11] (.quiet 0 (.quiet 1 (.quiet 2 (.quiet 3 (.quiet 4 (.quiet 5 (.quiet 6 (.quiet 7 (.quiet 8 (.quiet 9 (.loud 10 (.quiet 11 .done)))))))))))) Tryz.mixed (by kernel_rfl) (by kernel_rfl) (by repeat (first | exact retQ_noP | refine seqQ_noP ?_ | refine blockQ_noP ?_ | refine loopQ_noP ?_ | refine scopeQ_noP ?_ | (intro _ _ _ h; cases h.1))) ?_
          refine S_q (Ent.re [0,1,4] rfl) rfl (Q_move rfl) rfl rfl rfl ?_
          refine S_q (Ent.re [0,1,4] rfl) rfl (Q_nilCheck rfl) rfl rfl rfl ?_
          refine S_q (Ent.re [0,1,4] rfl) rfl (Q_fa0 rfl) rfl rfl rfl ?_
          refine S_q (Ent.re [0,1,4] rfl) rfl (Q_ld 0 rfl rfl rfl rfl) rfl rfl rfl ?_
          refine S_q (Ent.re [0,1,4] rfl) rfl (Q_move rfl) rfl rfl rfl ?_
          refine S_q (Ent.re [0,1,4] rfl) rfl (Q_ixAt 1 A.length rfl rfl rfl rfl hlt rfl) rfl rfl rfl ?_
          refine S_q (Ent.re [0,1,4] rfl) rfl (Q_pfa rfl) rfl rfl rfl ?_
          refine S_q (Ent.re [0,1,4] rfl) rfl (Q_ldEAt 1 A.length 0 (v := str mk) rfl rfl rfl rfl hlt (by decide) (by rw [hgi]; rfl)) rfl rfl rfl ?_
          refine S_q (Ent.re [0,1,4] rfl) rfl (Q_fa0 rfl) rfl rfl rfl ?_
          refine S_q (Ent.re [0,1,4] rfl) rfl (Q_ld 2 rfl rfl rfl rfl) rfl rfl rfl ?_
          refine S_o rfl rfl rfl rfl (O_call [] [0,1,2,3,4,5] hcm rfl rfl ?_)
          (rintro _ _ ⟨rfl, rfl⟩; refine ⟨_, fun _ => ⟨Ent.reN [0,1,4] rfl, Ent.refl _⟩, ?_⟩)
          refine JS.norm ?_
          refine S_q (Ent.re [0,1,4] rfl) rfl (Q_assign rfl) rfl rfl rfl ?_
          refine S_nil ?_
          refine seqQ_normal ?_
          refine J_block ?_
          refine J_seq ?_
          refine J_region ?_
          refine L_q (Q_move rfl) rfl rfl rfl ?_
          refine L_q ((Q_eql rfl rfl).as (v' := .bool true) rfl) rfl rfl rfl ?_
          refine L_q (Q_assign rfl) rfl rfl rfl ?_
          refine JL_nil ?_
          refine seqQ_normal ?_
          refine J_condT rfl ?_
          refine J_seq ?_
          refine J_drawH [0,4,1] [0, 1, 2, 3, 4, 5, 6, 7, 8] (.quiet 0 (.quiet 1 (.quiet 2 (.quiet 3 (.quiet 4 (.quiet 5 (.quiet 6 (.quiet 7 (.quiet 8 (.loud 9 .done)))))))))) Tryz.mixed (by kernel_rfl) (by kernel_rfl) (by repeat (first | exact retQ_noP | refine seqQ_noP ?_ | refine blockQ_noP ?_ | refine loopQ_noP ?_ | refine scopeQ_noP ?_ | (intro _ _ _ h; cases h.1))) ?_
          refine S_q (Ent.re [0,4,1] rfl) rfl (Q_move rfl) rfl rfl rfl ?_
          refine S_q (Ent.re [0,4,1] rfl) rfl (Q_nilCheck rfl) rfl rfl rfl ?_
          refine S_q (Ent.re [0,4,1] rfl) rfl (Q_fa0 rfl) rfl rfl rfl ?_
          refine S_q (Ent.re [0,4,1] rfl) rfl (Q_ld 0 rfl rfl rfl rfl) rfl rfl rfl ?_
          refine S_q (Ent.re [0,4,1] rfl) rfl (Q_move rfl) rfl rfl rfl ?_
          refine S_q (Ent.re [0,4,1] rfl) rfl (Q_fa0 rfl) rfl rfl rfl ?_
          refine S_q (Ent.re [0,4,1] rfl) rfl (Q_ld 1 rfl rfl rfl rfl) rfl rfl rfl ?_
          refine S_q (Ent.re [0,4,1] rfl) rfl (Q_ixAt 2 A.length rfl rfl rfl rfl hlt rfl) rfl rfl rfl ?_
          refine S_q (Ent.re [0,4,1] rfl) rfl (Q_pfa rfl) rfl rfl rfl ?_
          refine S_s rfl rfl rfl (O_stE 1 A.length 1 ⟨mk, v⟩ rfl rfl rfl rfl rfl rfl (by simp [Value.oneCell', Value.cells]) hlt (Nat.le_refl 2) (by rw [hgi]; rfl) ⟨[], free_no (by kernel_rfl), ?_⟩)
          refine JS.norm ?_
          refine S_nil ?_
          refine seqQ_normal ?_
          refine J_seq ?_
          rw [hset]
          refine J_region ?_
          refine L_q (Q_assign rfl) rfl rfl rfl ?_
          refine JL_nil ?_
          refine seqQ_normal ?_
          refine J_ret ?_
          refine blockQ_ret ?_
          refine seqQ_ret ?_
          refine blockQ_ret ?_
          refine loopQ_ret ?_
          refine blockQ_ret ?_
          exact retQ_ret _ [nodeX m0 d0 p0 (putL (flat d0 t0) mk v)] (.cons (RV_tmp rfl) .nil) ⟨rfl, rfl⟩ ((Ent.re [0, 1, 2, 3, 5] rfl).trans ((Ent.innerA (es := A ++ (e.1, c1) :: (q, c2) :: B) (C := A.map (·.2) ++ c1 :: c2 :: B.map (·.2)) (by simp)).trans ((Ent.mkX (show wf m (d + 1) (K1 ++ (⟨mk, v⟩ : Kv) :: K2, A.map (·.2) ++ c1 :: c2 :: B.map (·.2)) from ⟨by simp; omega, by simp; omega, by simp; omega, fun c hc => by
            have hc2 : c ∈ (A ++ (e.1, c1) :: (q, c2) :: B).map (·.2) := by simpa using hc
            obtain ⟨x, hx, rfl⟩ := List.mem_map.1 hc2
            exact hw3 x hx⟩) hfl).trans hcl)))
        · rw [cmp_kl, kl_asymm hk, if_neg (by simp), if_pos hk] at hcm
          refine J_drawH [0,1,4] [0, 1, 2, 3, 4, 5, 6, 7, 8, 9, 11] (.quiet 0 (.quiet 1 (.quiet 2 (.quiet 3 (.quiet 4 (.quiet 5 (.quiet 6 (.quiet 7 (.quiet 8 (.quiet 9 (.loud 10 (.quiet 11 .done)))))))))))) Tryz.mixed (by kernel_rfl) (by kernel_rfl) (by repeat (first | exact retQ_noP | refine seqQ_noP ?_ | refine blockQ_noP ?_ | refine loopQ_noP ?_ | refine scopeQ_noP ?_ | (intro _ _ _ h; cases h.1))) ?_
          refine S_q (Ent.re [0,1,4] rfl) rfl (Q_move rfl) rfl rfl rfl ?_
          refine S_q (Ent.re [0,1,4] rfl) rfl (Q_nilCheck rfl) rfl rfl rfl ?_
          refine S_q (Ent.re [0,1,4] rfl) rfl (Q_fa0 rfl) rfl rfl rfl ?_
          refine S_q (Ent.re [0,1,4] rfl) rfl (Q_ld 0 rfl rfl rfl rfl) rfl rfl rfl ?_
          refine S_q (Ent.re [0,1,4] rfl) rfl (Q_move rfl) rfl rfl rfl ?_
          refine S_q (Ent.re [0,1,4] rfl) rfl (Q_ixAt 1 A.length rfl rfl rfl rfl hlt rfl) rfl rfl rfl ?_
          refine S_q (Ent.re [0,1,4] rfl) rfl (Q_pfa rfl) rfl rfl rfl ?_
          refine S_q (Ent.re [0,1,4] rfl) rfl (Q_ldEAt 1 A.length 0 (v := str mid.key) rfl rfl rfl rfl hlt (by decide) (by rw [hgi]; rfl)) rfl rfl rfl ?_
          refine S_q (Ent.re [0,1,4] rfl) rfl (Q_fa0 rfl) rfl rfl rfl ?_
          refine S_q (Ent.re [0,1,4] rfl) rfl (Q_ld 2 rfl rfl rfl rfl) rfl rfl rfl ?_
          refine S_o rfl rfl rfl rfl (O_call [] [0,1,2,3,4,5] hcm rfl rfl ?_)
          (rintro _ _ ⟨rfl, rfl⟩; refine ⟨_, fun _ => ⟨Ent.reN [0,1,4] rfl, Ent.refl _⟩, ?_⟩)
          refine JS.norm ?_
          refine S_q (Ent.re [0,1,4] rfl) rfl (Q_assign rfl) rfl rfl rfl ?_
          refine S_nil ?_
          refine seqQ_normal ?_
          refine J_block ?_
          refine J_seq ?_
          refine J_region ?_
          refine L_q (Q_move rfl) rfl rfl rfl ?_
          refine L_q ((Q_eql rfl rfl).as (v' := .bool false) rfl) rfl rfl rfl ?_
          refine L_q (Q_assign rfl) rfl rfl rfl ?_
          refine JL_nil ?_
          refine seqQ_normal ?_
          refine J_condF rfl ?_
          refine J_seq ?_
          refine J_region ?_
          refine L_q (Q_move rfl) rfl rfl rfl ?_
          refine L_q ((Q_lss rfl rfl).as (v' := .bool false) rfl) rfl rfl rfl ?_
          refine L_q (Q_assign rfl) rfl rfl rfl ?_
          refine JL_nil ?_
          refine seqQ_normal ?_
          refine J_condF rfl ?_
          refine J_skip ?_
          refine blockQ_normal ?_
          refine seqQ_normal ?_
          have eC : A.map (·.2) ++ c1 :: c2 :: B.map (·.2) = A.map (·.2) ++ c1 :: ((q, c2) :: B).map (·.2) := by simp
          rw [eC] at hu hh hcl
          obtain ⟨n1, n2, n3, n4, _, n6, _⟩ := inner_miss (by simpa using hp) hu hk1 (fun x hx => by
            rcases List.mem_cons.1 hx with rfl | hx
            · exact hk
            · exact hk2 x hx)
          have hPlt2 : A.length < (pL (A ++ (e.1, c1) :: (q, c2) :: B)).length := by rw [pL_len]; simp
          have hPg2 : (pL (A ++ (e.1, c1) :: (q, c2) :: B))[A.length] = some e.1 := mid_get _ A ((q, c2) :: B) (e.1, c1) hPlt2
          refine J_region ?_
          refine L_q (Q_move rfl) rfl rfl rfl ?_
          refine L_q (Q_nilCheck rfl) rfl rfl rfl ?_
          refine L_q (Q_fa0 rfl) rfl rfl rfl ?_
          refine L_q (Q_ld 0 rfl rfl rfl rfl) rfl rfl rfl ?_
          refine L_q (Q_move rfl) rfl rfl rfl ?_
          refine L_q (Q_ixAt 2 A.length rfl rfl rfl rfl hPlt2 rfl) rfl rfl rfl ?_
          refine L_q (Q_ldEAt 2 A.length 0 (v := .pointer (some ⟨e.1, 0, none⟩)) rfl rfl rfl rfl hPlt2 (by decide) (by rw [hPg2]; rfl)) rfl rfl rfl ?_
          refine L_q (Q_assign rfl) rfl rfl rfl ?_
          refine JL_nil ?_
          refine blockQ_normal ?_
          refine loopQ_normal ⟨d, e.1, 3, c1, stars (parL p S2 R2 (K1 ++ mid :: K2) (pL A ++ some e.1 :: pL ((q, c2) :: B)) (A ++ (q, c2) :: B) G)⟩ ⟨g2, by show (tks d c1).length ≤ 6; omega, n1, by rw [← n6]; exact hh, (plugX hp (by simp [hBl]) (by simp; omega) (by simp; omega) (fun x hx => hw3 x (by
            rcases List.mem_append.1 hx with hx | hx
            · exact List.mem_append_left _ hx
            · exact List.mem_append_right _ (List.mem_cons_of_mem _ hx))) (n4 v)).trans hcl⟩ (Nat.lt_succ_self d) ⟨rfl, rfl, trivial⟩ Ent.down
      · skip
        refine J_region ?_
        refine L_q (Q_move rfl) rfl rfl rfl ?_
        refine L_q (Q_nilCheck rfl) rfl rfl rfl ?_
        refine L_q (Q_fa0 rfl) rfl rfl rfl ?_
        refine L_q (Q_ld 4 rfl rfl rfl rfl) rfl rfl rfl ?_
        refine L_q (Q_move rfl) rfl rfl rfl ?_
        refine L_q (Q_ixAt 5 A.length rfl rfl rfl rfl hPlt rfl) rfl rfl rfl ?_
        refine L_q (Q_ldEAt 5 A.length 0 (v := .pointer (some ⟨e.1, 0, none⟩)) rfl rfl rfl rfl hPlt (by decide) (by rw [hPg]; rfl)) rfl rfl rfl ?_
        refine L_q (Q_nilCheck rfl) rfl rfl rfl ?_
        refine L_q (Q_fa0 rfl) rfl rfl rfl ?_
        refine L_q (Q_ld 0 rfl rfl rfl rfl) rfl rfl rfl ?_
        refine L_q (Q_lenAt 1 rfl rfl) rfl rfl rfl ?_
        refine L_q ((Q_eql rfl rfl).as (v' := .bool false) (congrArg Value.bool (decide_eq_false (by omega)))) rfl rfl rfl ?_
        refine JL_nil ?_
        refine seqQ_normal ?_
        refine J_condF rfl ?_
        refine J_skip ?_
        refine seqQ_normal ?_
        refine J.ent hclose ?_
        refine J_region ?_
        refine L_q (Q_move rfl) rfl rfl rfl ?_
        refine L_q (Q_nilCheck rfl) rfl rfl rfl ?_
        refine L_q (Q_fa0 rfl) rfl rfl rfl ?_
        refine L_q (Q_ld 0 rfl rfl rfl rfl) rfl rfl rfl ?_
        refine L_q (Q_move rfl) rfl rfl rfl ?_
        refine L_q (Q_ixAt 2 A.length rfl rfl rfl rfl hPlt rfl) rfl rfl rfl ?_
        refine L_q (Q_ldEAt 2 A.length 0 (v := .pointer (some ⟨e.1, 0, none⟩)) rfl rfl rfl rfl hPlt (by decide) (by rw [hPg]; rfl)) rfl rfl rfl ?_
        refine L_q (Q_assign rfl) rfl rfl rfl ?_
        refine JL_nil ?_
        refine blockQ_normal ?_
        refine loopQ_normal ⟨d, e.1, 3, e.2, stars (parL p S R (K1 ++ K2) (pL A ++ some e.1 :: pL B) (A ++ B) G)⟩ ⟨hwe, by have := (wf_ks hwe).2; show (tks d e.2).length ≤ 6; omega, n1, by rw [← n6]; exact hh, (plugX hp hBl (by omega) (by omega) hwAB (n4 v)).trans hcl⟩ (Nat.lt_succ_self d) ⟨rfl, rfl, trivial⟩ Ent.down
end Go.Proofs.Bt
