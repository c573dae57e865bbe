/- Part 9 of the texts below the row: Tree4, Tree5, Tree6. -/
import Derived.Test.YtgifbeecmidciaaGreatM8
/- A tree: new, its length, a pair put, a key looked up. -/
set_option autoImplicit false
namespace Go.SL
theorem J.cut0 {P : Program} {E : World} {n : Nat} {c d : Code} {Q : Post} {ρ : Env} {L : List HProp} (M : Post) (h : J P E n c (seqQ P E n d M) ρ L) (hq : ∀ e ρ L, M e ρ L → Q e ρ L) : J P E n c (seqQ P E n d Q) ρ L := by
 refine h.mono fun e ρ L he => ?_
 cases e with
 | normal => exact J.mono (show J P E n d M ρ L from he) hq
 | _ => simp only [seqQ] at he ⊢; exact hq _ _ _ he
end Go.SL
namespace Go.Proofs.Bt
open Go.SL
abbrev trC (p r n : Nat) : HProp := cel p [.pointer (some ⟨r, 0, none⟩), .int .i64 (n : Int)] 134
/-- A tree of these pairs. -/
def treeA (p : Nat) (l : List Kv) : HProp := hex fun g : Nat × Nat => star (pur (Up l)) (stars [trC p g.1 l.length, nodeX (min g.2 1) g.2 g.1 l])
theorem Ent.tree {p r d : Nat} {l : List Kv} {L : List HProp} (hu : Up l) : Ent (trC p r l.length :: nodeX (min d 1) d r l :: L) (treeA p l :: L) := fun E w h => by
 have h1 := Sat.rot (A := [trC p r l.length, nodeX (min d 1) d r l]) (B := L) h
 have h3 : Sat E w (stars [trC p r l.length, nodeX (min d 1) d r l] :: L) := Sat.rot (A := L) h1.fold
 have h4 : Sat E w (pur (Up l) :: stars [trC p r l.length, nodeX (min d 1) d r l] :: L) := h3.lay fun _ => hu
 exact (h4.mkstar).mkex (f := fun g : Nat × Nat => star (pur (Up l)) (stars [trC p g.1 l.length, nodeX (min g.2 1) g.2 g.1 l])) (r, d)
theorem Ent.treeN {p r d : Nat} {n : Int} {l : List Kv} {L : List HProp} (hu : Up l) (hn : n = (l.length : Int)) : Ent (cel p [.pointer (some ⟨r, 0, none⟩), .int .i64 n] 134 :: nodeX (min d 1) d r l :: L) (treeA p l :: L) := by
 subst hn; exact Ent.tree hu
theorem Sat.tree_out {E w : World} {p : Nat} {l : List Kv} {L : List HProp} (h : Sat E w (treeA p l :: L)) : ∃ g : { g : Nat × Nat // Up l }, Sat E w (trC p g.1.1 l.length :: nodeX (min g.1.2 1) g.1.2 g.1.1 l :: L) := by
 obtain ⟨g, hg⟩ := h.ex
 obtain ⟨hm, h2⟩ := hg.star.fact
 exact ⟨⟨g, hm⟩, Sat.rot (A := L) (h2.rot (A := [_]) (B := L)).unfold⟩
theorem Sat.swap2 {E w : World} {A B : HProp} {L : List HProp} (h : Sat E w (A :: B :: L)) : Sat E w (B :: A :: L) := Sat.two (A := []) h
theorem J.tree {P : Program} {E : World} {n : Nat} {c : Code} {Q : Post} {ρ : Env} {p : Nat} {l : List Kv} {L : List HProp} (h : ∀ (r d : Nat) (t : T d), Up l → wf (min d 1) d t → flat d t = l → J P E n c Q ρ (nodeA d r t :: trC p r l.length :: L)) : J P E n c Q ρ (treeA p l :: L) :=
 J.open (fun _ hs => Sat.tree_out hs) fun g => J.ent (fun E w h => Sat.swap2 h) (J.outX fun t h1 h2 => h g.1.1 g.1.2 t g.2 h1 h2)
theorem Ent.foldR {A : HProp} {L : List HProp} : Ent (A :: L) [A, stars L] := fun E w h => Sat.fold (A := [A]) h
theorem Ent.unfoldR {A : HProp} {L : List HProp} : Ent [A, stars L] (A :: L) := fun E w h => Sat.unfold (A := [A]) h
theorem Ent.treeF {p r d : Nat} {t : T d} {l : List Kv} {F : HProp} (hu : Up l) (hw : wf (min d 1) d t) (hf : flat d t = l) : Ent [nodeA d r t, stars [trC p r l.length, F]] [treeA p l, F] :=
 Ent.unfoldR.trans ((Ent.mkX hw hf).trans ((Ent.re [1,0,2] rfl).trans (Ent.tree hu)))
theorem inner_get {d : Nat} {K1 K2 : List Kv} {k u : Ky} {C : List (T d)} (hC : C.length = K1.length + K2.length + 2) (h : Up (flat (d + 1) (K1 ++ ⟨k, u⟩ :: K2, C))) : getL (flat (d + 1) (K1 ++ ⟨k, u⟩ :: K2, C)) k = u ∧ hasL (flat (d + 1) (K1 ++ ⟨k, u⟩ :: K2, C)) k = true := by
 obtain ⟨A, c, B, rfl, hA⟩ := split_at (l := C) (i := K1.length) (by omega)
 have hB : ∃ c' B', B = c' :: B' := by
  cases B with
  | nil => simp at hC; omega
  | cons c' B' => exact ⟨c', B', rfl⟩
 obtain ⟨c', B', rfl⟩ := hB
 have e : flat (d + 1) (K1 ++ ⟨k, u⟩ :: K2, A ++ c :: c' :: B') = (preF d K1 A ++ flat d c) ++ ⟨k, u⟩ :: (flat d c' ++ postF d K2 B') := by
  rw [flat_2 K1 K2 _ A B' c c' hA.symm]; simp
 rw [e] at h
 obtain ⟨h1, h2, _, _⟩ := up_mid h
 rw [e]
 exact ⟨get_hit h1 h2 u, has_hit u⟩
theorem Ent.downN {d p : Nat} {S R : SV} {K : List Kv} {A B : List (Nat × T d)} {e : Nat × T d} {G : HProp} : Ent [ndC p S R, slc tKv true S K, slc tNd true R (pL (A ++ e :: B)), stars ((A ++ e :: B).map (ndE d)), G] [nodeA d e.1 e.2, stars (parL p S R K (pL A ++ some e.1 :: pL B) (A ++ B) G)] := fun E w h => by
 have h1 := (Ent.re [3,0,1,2,4] rfl : Ent _ [stars ((A ++ e :: B).map (ndE d)), ndC p S R, slc tKv true S K, slc tNd true R (pL (A ++ e :: B)), G]) E w h
 have h2 := Ent.mid_out (ndE d) A e B E w h1
 have h3 := (Ent.re [0,2,3,4,1,5] rfl : Ent _ [nodeA d e.1 e.2, ndC p S R, slc tKv true S K, slc tNd true R (pL (A ++ e :: B)), stars ((A ++ B).map (ndE d)), G]) E w h2
 rw [pL_app] at h3
 exact Sat.fold (A := [nodeA d e.1 e.2]) h3
theorem Ent.up {d p : Nat} {S R : SV} {K : List Kv} {A B : List (Nat × T d)} {e : Nat × T d} {G : HProp} : Ent [nodeA d e.1 e.2, stars (parL p S R K (pL A ++ some e.1 :: pL B) (A ++ B) G)] [nodeA (d + 1) p (K, (A ++ e :: B).map (·.2)), G] := fun E w h => by
 have h2 : Sat E w ([nodeA d e.1 e.2] ++ parL p S R K (pL A ++ some e.1 :: pL B) (A ++ B) G) := Sat.unfold (A := [nodeA d e.1 e.2]) h
 rw [← pL_app A B e] at h2
 have e1 : Ent (nodeA d e.1 e.2 :: parL p S R K (pL (A ++ e :: B)) (A ++ B) G) [nodeA d e.1 e.2, stars ((A ++ B).map (ndE d)), ndC p S R, slc tKv true S K, slc tNd true R (pL (A ++ e :: B)), G] := Ent.re [0,4,1,2,3,5] rfl
 have e2 := e1.trans (Ent.mid_in (ndE d) A e B)
 exact (e2.trans ((Ent.re [1,2,3,0,4] rfl).trans (Ent.innerA (es := A ++ e :: B) rfl))) E w h2
attribute [local irreducible] J JL QOp JOp seqQ blockQ loopQ retQ slc cel hex star pur stars Does RV Ent pAt scopeQ
attribute [local irreducible] nodeA nodeX treeA
theorem tnew_ok (E : World) : Does Tryz.prog E 36 [] [] fun v L => ∃ p : Nat, v = .pointer (some ⟨p, 0, none⟩) ∧ L = [treeA p []] := by
 refine Does.of Tryz.func36 rfl Tryz.ntmps36 rfl rfl fun F => ?_
 refine J.norm ?_
 refine Sr ?_
 refine Lq (Q_assign rfl) ?_
 refine Ln ?_
 refine Sr ?_
 refine Lq (Q_build rfl) ?_
 refine L_o rfl rfl rfl (O_box rfl fun b2 => ?_)
 refine Lq (Q_build rfl) ?_
 refine L_o rfl rfl rfl (O_box rfl fun b4 => ?_)
 refine Lq (Q_assign rfl) ?_
 refine Ln ?_
 refine J_ret ?_
 refine retQ_ret _ [treeA b4 []] (.cons (RV_tmp rfl) .nil) ⟨b4, rfl, rfl⟩ ?_
 refine (Ent.mk fun _ _ h => ((h.lay_nil tNd true).lay_nil tKv true : Sat _ _ (slc tKv true SV.nil [] :: slc tNd true SV.nil [] :: _))).trans ?_
 refine (Ent.re [3,0,1,2,4] rfl).trans ?_
 refine (Ent.leafA (t := ([] : List Kv)) (S := SV.nil) (Q := SV.nil)).trans ?_
 refine (Ent.mkX (m := 0) (l := []) (show wf 0 0 ([] : List Kv) from ⟨Nat.zero_le _, Nat.zero_le _⟩) rfl).trans ?_
 exact (Ent.re [1,0,2] rfl).trans (Ent.tree (d := 0) List.Pairwise.nil)
theorem tput_ok (E : World) (p : Nat) (l : List Kv) (k v : Ky) (hl : l.length ≤ 1000000) : Does Tryz.prog E 78 [.pointer (some ⟨p, 0, none⟩), str k, str v] [treeA p l] fun r L => r = .bool (!hasL l k) ∧ L = [treeA p (putL l k v)] := by
 refine Does.of Tryz.func78 rfl Tryz.ntmps78 rfl rfl fun F => ?_
 refine J.norm ?_
 refine J.tree fun r d t hu hw hf => ?_
 have hpl := put_len hu k v
 have hu2 := up_put hu k v
 refine Sr ?_
 refine Lq (Q_assign rfl) ?_
 refine Ln ?_
 refine J_seq ?_
 refine Sr ?_
 refine Lq (Q_move rfl) ?_
 refine Lq ((Q_peql rfl rfl).as (v' := .bool false) rfl) ?_
 refine Ln ?_
 refine J_condF rfl ?_
 refine J_skip ?_
 refine seqQ_normal ?_
 refine J_seq ?_
 refine J_seq ?_
 refine J.peek fun S R X hX => ?_
 have hw7 := (wf_ks hw).2
 refine J.cut0 (fun e ρ' L' => e = .normal ∧ ∃ (r2 d2 : Nat) (t2 : T d2), wf (min d2 1) d2 t2 ∧ flat d2 t2 = l ∧ (tks d2 t2).length ≤ 6 ∧ envSub [(0, .pointer (some ⟨p, 0, none⟩)), (1, str k), (2, str v)] ρ' ∧ Ent L' [nodeA d2 r2 t2, trC p r2 l.length, F]) ?_ ?_
 ·by_cases h7 : (tks d t).length = 7
  ·have hw3 : wf 3 d t := wf_mk hw (by omega)
   obtain ⟨g1, g2, g3, g4, g5⟩ := spL_ok hw3 h7
   refine J_region ?_
   refine Lq (Q_move rfl) ?_
   refine Lq (Q_nilCheck rfl) ?_
   refine Lq (Q_fa0 rfl) ?_
   refine Lq (Q_ld 3 rfl rfl rfl rfl) ?_
   refine Lq (Q_nilCheck rfl) ?_
   refine Lq (Q_fa0 rfl) ?_
   refine Lq (Q_ld 0 rfl rfl rfl rfl) ?_
   refine Lq (Q_lenAt 1 rfl rfl) ?_
   refine Lq ((Q_eql rfl rfl).as (v' := .bool true) (congrArg Value.bool (decide_eq_true (by omega)))) ?_
   refine Ln ?_
   refine J_condT rfl ?_
   refine J_seq ?_
   refine J.ent (hX _) ?_
   refine J_region ?_
   refine Lq (Q_move rfl) ?_
   refine Lq (Q_move rfl) ?_
   refine Lq (Q_nilCheck rfl) ?_
   refine Lq (Q_fa0 rfl) ?_
   refine Lq (Q_ld 1 rfl rfl rfl rfl) ?_
   refine L_o rfl rfl rfl (O_litP (τ := tNd) (m := 1) (sz := 1) [some r] rfl rfl rfl rfl rfl rfl (by decide) (fun U => ?_))
   refine JL.norm ?_
   refine Lq (Q_build rfl) ?_
   refine L_o rfl rfl rfl (O_box rfl fun b26 => ?_)
   refine Lq (Q_nilCheck rfl) ?_
   refine Lq (Q_fa0 rfl) ?_
   refine L_s rfl rfl (O_st1 3 rfl rfl rfl rfl rfl ?_)
   refine JL.norm ?_
   refine Ln ?_
   refine J.ent (Ent.mk fun _ _ h => (h.lay_nil tKv true : Sat _ _ (slc tKv true SV.nil [] :: _))) ?_
   refine J.ent (Ent.re [3,1,0,2,4,5] rfl) ?_
   refine J.ent (Ent.stars_nil.trans ((Ent.re [1,0,2,3,4,5,6] rfl).trans ((Ent.mid_in (ndE d) [] (r, t) []).trans (Ent.re [1,2,3,0,4,5] rfl)))) ?_
   refine J_region ?_
   refine Lq (Q_move rfl) ?_
   refine Lq (Q_nilCheck rfl) ?_
   refine Lq (Q_fa0 rfl) ?_
   refine Lq (Q_ld 4 rfl rfl rfl rfl) ?_
   refine L_o rfl rfl rfl (O_call [0,1,2,3] [4,5] (split_ok E d b26 SV.nil U [] [] [] [] (r, t) rfl h7 hw3 (by simp) (by simp)) rfl rfl ?_)
   rintro _ _ ⟨rfl, S2, R2, q, rfl⟩
   refine JL.norm ?_
   refine JL_nil ?_
   generalize (tks d t)[3] = mid at *
   generalize (spL d t).1 = c1 at *
   generalize (spL d t).2 = c2 at *
   exact ⟨rfl, b26, d + 1, ([mid], [c1, c2]), ⟨Nat.min_le_right _ _, by simp, rfl, fun c hc => by
    simp only [List.mem_cons, List.not_mem_nil, or_false] at hc
    rcases hc with rfl | rfl
    ·exact g2
    ·exact g3⟩, by rw [← hf, g1]; simp [flat, ileave], by simp [tks], ⟨rfl, rfl, rfl, trivial⟩, Ent.innerA (es := [(r, c1), (q, c2)]) rfl⟩
  ·skip
   refine J_region ?_
   refine Lq (Q_move rfl) ?_
   refine Lq (Q_nilCheck rfl) ?_
   refine Lq (Q_fa0 rfl) ?_
   refine Lq (Q_ld 3 rfl rfl rfl rfl) ?_
   refine Lq (Q_nilCheck rfl) ?_
   refine Lq (Q_fa0 rfl) ?_
   refine Lq (Q_ld 0 rfl rfl rfl rfl) ?_
   refine Lq (Q_lenAt 1 rfl rfl) ?_
   refine Lq ((Q_eql rfl rfl).as (v' := .bool false) (congrArg Value.bool (decide_eq_false (by omega)))) ?_
   refine Ln ?_
   refine J_condF rfl ?_
   refine J_skip ?_
   exact ⟨rfl, r, d, t, hw, hf, by omega, ⟨rfl, rfl, rfl, trivial⟩, hX _⟩
 rintro _ ρ' L' ⟨rfl, r2, d2, t2, hw2, hf2, h6, hsub, hent⟩
 refine seqQ_normal ?_
 refine J.sub hsub ?_
 refine J.ent hent ?_
 have hnp := nput_ok E d2 r2 (min d2 1) t2 k v hw2 h6 (by rw [hf2]; exact hu)
 rw [hf2] at hnp
 cases hb : hasL l k with
 | true =>
  rw [hb] at hnp
  rw [hb, if_pos rfl] at hpl
  refine Sr ?_
  refine Lq (Q_move rfl) ?_
  refine Lq (Q_nilCheck rfl) ?_
  refine Lq (Q_fa0 rfl) ?_
  refine Lq (Q_ld 1 rfl rfl rfl rfl) ?_
  refine Lq (Q_move rfl) ?_
  refine Lq (Q_move rfl) ?_
  refine Lq (Q_build rfl) ?_
  refine L_o rfl rfl rfl (O_call [0] [1,2] hnp rfl rfl ?_)
  rintro _ _ ⟨rfl, rfl⟩
  refine JL.norm ?_
  refine Lq (Q_assign rfl) ?_
  refine Ln ?_
  refine J_seq ?_
  refine Sr ?_
  refine Lq (Q_move rfl) ?_
  refine Ln ?_
  refine J_condF rfl ?_
  refine J_skip ?_
  refine seqQ_normal ?_
  refine Sr ?_
  refine Lq (Q_move rfl) ?_
  refine Lq (Q_assign rfl) ?_
  refine Ln ?_
  refine J_ret ?_
  exact retQ_ret _ [treeA p (putL l k v)] (.cons (RV_tmp rfl) .nil) ⟨rfl, rfl⟩ ((Ent.re [1,0,2] rfl).trans (Ent.treeN hu2 (by rw [hpl])))
 | false =>
  rw [hb] at hnp
  rw [hb, if_neg (by simp)] at hpl
  refine Sr ?_
  refine Lq (Q_move rfl) ?_
  refine Lq (Q_nilCheck rfl) ?_
  refine Lq (Q_fa0 rfl) ?_
  refine Lq (Q_ld 1 rfl rfl rfl rfl) ?_
  refine Lq (Q_move rfl) ?_
  refine Lq (Q_move rfl) ?_
  refine Lq (Q_build rfl) ?_
  refine L_o rfl rfl rfl (O_call [0] [1,2] hnp rfl rfl ?_)
  rintro _ _ ⟨rfl, rfl⟩
  refine JL.norm ?_
  refine Lq (Q_assign rfl) ?_
  refine Ln ?_
  refine J_seq ?_
  refine Sr ?_
  refine Lq (Q_move rfl) ?_
  refine Ln ?_
  refine J_condT rfl ?_
  refine J_region ?_
  refine Lq (Q_move rfl) ?_
  refine Lq (Q_nilCheck rfl) ?_
  refine Lq (Q_fa0 rfl) ?_
  refine Lq (Q_ld 1 rfl rfl rfl rfl) ?_
  refine Lq (Q_add rfl rfl (by first | exact IntWalk.i64_in _ (by omega) | exact IntWalk.u8_in _ (by omega) | exact IntWalk.u32_in _ (by omega) | exact IntWalk.u64_in _ (by omega) | rfl)) ?_
  refine Lq (Q_nilCheck rfl) ?_
  refine Lq (Q_fa0 rfl) ?_
  refine L_s rfl rfl (O_st1 1 rfl rfl rfl rfl rfl ?_)
  refine JL.norm ?_
  refine Ln ?_
  refine Sr ?_
  refine Lq (Q_move rfl) ?_
  refine Lq (Q_assign rfl) ?_
  refine Ln ?_
  refine J_ret ?_
  exact retQ_ret _ [treeA p (putL l k v)] (.cons (RV_tmp rfl) .nil) ⟨rfl, rfl⟩ ((Ent.re [1,0,2] rfl).trans (Ent.treeN hu2 (by rw [hpl]; rfl)))
theorem tget_ok (E : World) (p0 : Nat) (l : List Kv) (k : Ky) : Does Tryz.prog E 41 [.pointer (some ⟨p0, 0, none⟩), str k] [treeA p0 l] fun r L => r = .tuple #[str (getL l k), .bool (hasL l k)] ∧ L = [treeA p0 l] := by
 refine Does.of Tryz.func41 rfl Tryz.ntmps41 rfl rfl fun F => ?_
 refine J.norm ?_
 refine J.tree fun r d t hu hw hf => ?_
 refine Sr ?_
 refine Lq (Q_assign rfl) ?_
 refine Lq (Q_assign rfl) ?_
 refine Ln ?_
 refine J_seq ?_
 refine Sr ?_
 refine Lq (Q_move rfl) ?_
 refine Lq ((Q_peql rfl rfl).as (v' := .bool false) rfl) ?_
 refine Ln ?_
 refine J_condF rfl ?_
 refine J_skip ?_
 refine seqQ_normal ?_
 refine Sr ?_
 refine Lq (Q_move rfl) ?_
 refine Lq (Q_nilCheck rfl) ?_
 refine Lq (Q_fa0 rfl) ?_
 refine Lq (Q_ld 1 rfl rfl rfl rfl) ?_
 refine Lq (Q_assign rfl) ?_
 refine Ln ?_
 refine J_block ?_
 refine J_loop (fun i : It => wf i.m i.d i.t ∧ Up (flat i.d i.t) ∧ hasL (flat i.d i.t) k = hasL l k ∧ getL (flat i.d i.t) k = getL l k ∧ Ent [nodeA i.d i.p i.t, i.G] [treeA p0 l, F])
  (fun i => [(1, str k), (6, .pointer (some ⟨i.p, 0, none⟩))]) (fun i => [nodeA i.d i.p i.t, i.G]) (fun i => i.d) ⟨d, r, min d 1, t, stars [trC p0 r l.length, F]⟩ ⟨hw, by rw [hf]; exact hu, by rw [hf], by rw [hf], Ent.treeF hu hw hf⟩ ⟨rfl, rfl, trivial⟩ Ent.foldR ?_
 rintro ⟨d, p, m, t, G⟩ ⟨hw, hu, hh, hg, hcl⟩
 dsimp only at hw hu hh hg hcl ⊢
 have hku := ks_up hw hu
 have hk7 := (wf_ks hw).2
 cases d with
 | zero =>
  refine J.leaf fun S R => ?_
  have hpl := pos_le (tks 0 t) k
  have hf := find_ok E p S R (tks 0 t) k (by omega) hku
  cases hb : hasL (tks 0 t) k with
  | true =>
   have hb' : hasL (flat 0 t) k = true := hb
   rw [hb'] at hh
   rw [← hh, ← hg]
   obtain ⟨K1, K2, u, hK, hp⟩ := hit_split hku hb
   rw [hb] at hf
   have hgu : getL (flat 0 t) k = u := by
    show getL (tks 0 t) k = u
    rw [hK] at hku ⊢
    obtain ⟨m1, m2, _, _⟩ := up_mid hku
    exact get_hit m1 m2 u
   rw [hgu]
   generalize hks : tks 0 t = K at *
   generalize posK K k = i at *
   subst hK
   have hlt : i < (K1 ++ (⟨k, u⟩ : Kv) :: K2).length := by rw [← hp]; simp
   have hgi := get_mid (x := (⟨k, u⟩ : Kv)) (Y := K2) hp hlt
   refine J_block ?_
   refine Sr ?_
   refine Lq (Q_move rfl) ?_
   refine Lq (Q_move rfl) ?_
   refine L_o rfl rfl rfl (O_call [0,1] [2,3] hf rfl rfl ?_)
   rintro _ _ ⟨rfl, rfl⟩
   refine JL.norm ?_
   refine Lq (Q_move rfl) ?_
   refine Lq (Q_extract (v := .int .i64 (i : Int)) rfl rfl) ?_
   refine Lq (Q_extract (v := .bool true) rfl rfl) ?_
   refine Lq (Q_assign rfl) ?_
   refine Lq (Q_assign rfl) ?_
   refine Ln ?_
   refine J_seq ?_
   refine Sr ?_
   refine Lq (Q_move rfl) ?_
   refine Ln ?_
   refine J_condT rfl ?_
   refine Sr ?_
   refine Lq (Q_move rfl) ?_
   refine Lq (Q_nilCheck rfl) ?_
   refine Lq (Q_fa0 rfl) ?_
   refine Lq (Q_ld 0 rfl rfl rfl rfl) ?_
   refine Lq (Q_move rfl) ?_
   refine Lq (Q_ixAt 1 i rfl rfl rfl rfl hlt rfl) ?_
   refine Lq (Q_pfa rfl) ?_
   refine Lq (Q_ldEAt 1 i 1 (v := str u) rfl rfl rfl rfl hlt (by decide) (by rw [hgi]; rfl)) ?_
   refine Lq (Q_assign rfl) ?_
   refine Lq (Q_assign rfl) ?_
   refine Ln ?_
   refine J_ret ?_
   refine seqQ_ret ?_
   refine blockQ_ret ?_
   refine loopQ_ret ?_
   refine blockQ_ret ?_
   exact retQ_ret _ [treeA p0 l] (.cons (RV_tmp rfl) (.cons (RV_tmp rfl) .nil)) ⟨rfl, rfl⟩ (Ent.trans (by rw [← hks]; exact Ent.leafA (L := [G])) hcl)
  | false =>
   have hb' : hasL (flat 0 t) k = false := hb
   rw [hb'] at hh
   rw [← hh, ← hg, get_not hb']
   rw [hb] at hf
   refine J_block ?_
   refine Sr ?_
   refine Lq (Q_move rfl) ?_
   refine Lq (Q_move rfl) ?_
   refine L_o rfl rfl rfl (O_call [0,1] [2,3] hf rfl rfl ?_)
   rintro _ _ ⟨rfl, rfl⟩
   refine JL.norm ?_
   refine Lq (Q_move rfl) ?_
   refine Lq (Q_extract (v := .int .i64 (posK (tks 0 t) k : Int)) rfl rfl) ?_
   refine Lq (Q_extract (v := .bool false) rfl rfl) ?_
   refine Lq (Q_assign rfl) ?_
   refine Lq (Q_assign rfl) ?_
   refine Ln ?_
   refine J_seq ?_
   refine Sr ?_
   refine Lq (Q_move rfl) ?_
   refine Ln ?_
   refine J_condF rfl ?_
   refine J_skip ?_
   refine seqQ_normal ?_
   refine J_seq ?_
   refine Sr ?_
   refine Lq (Q_move rfl) ?_
   refine L_o rfl rfl rfl (O_call [0,2] [1,3] (leaf_ok E p S R []) rfl rfl ?_)
   rintro _ _ ⟨rfl, rfl⟩
   refine JL.norm ?_
   refine Ln ?_
   refine J_condT rfl ?_
   refine Sr ?_
   refine Lq (Q_assign rfl) ?_
   refine Lq (Q_assign rfl) ?_
   refine Ln ?_
   refine J_ret ?_
   refine seqQ_ret ?_
   refine blockQ_ret ?_
   refine loopQ_ret ?_
   refine blockQ_ret ?_
   exact retQ_ret _ [treeA p0 l] (.cons (RV_tmp rfl) (.cons (RV_tmp rfl) .nil)) ⟨rfl, rfl⟩ ((Ent.re [0,2,1,3] rfl).trans (Ent.leafA.trans hcl))
 | succ d =>
  obtain ⟨Kt, C⟩ := t
  refine J.inner fun S R es hes => ?_
  dsimp only at hes ⊢
  have hku : Up Kt := hku
  obtain ⟨hwm, hw7, hwC, hwc⟩ := hw
  dsimp only at hwm hw7 hwC hwc
  have hpl := pos_le Kt k
  have hel : es.length = Kt.length + 1 := by rw [← hwC, ← hes, List.length_map]
  have hf := find_ok E p S R Kt k (by omega) hku
  cases hb : hasL Kt k with
  | true =>
   obtain ⟨K1, K2, u, hK, hp⟩ := hit_split hku hb
   rw [hb] at hf
   generalize posK Kt k = i at *
   subst hK
   have hlt : i < (K1 ++ (⟨k, u⟩ : Kv) :: K2).length := by rw [← hp]; simp
   have hgi := get_mid (x := (⟨k, u⟩ : Kv)) (Y := K2) hp hlt
   obtain ⟨hgu, hhs⟩ := inner_get (by simp at hwC; omega) hu
   rw [hhs] at hh
   rw [hgu] at hg
   rw [← hh, ← hg]
   refine J_block ?_
   refine Sr ?_
   refine Lq (Q_move rfl) ?_
   refine Lq (Q_move rfl) ?_
   refine L_o rfl rfl rfl (O_call [0,1] [2,3,4] hf rfl rfl ?_)
   rintro _ _ ⟨rfl, rfl⟩
   refine JL.norm ?_
   refine Lq (Q_move rfl) ?_
   refine Lq (Q_extract (v := .int .i64 (i : Int)) rfl rfl) ?_
   refine Lq (Q_extract (v := .bool true) rfl rfl) ?_
   refine Lq (Q_assign rfl) ?_
   refine Lq (Q_assign rfl) ?_
   refine Ln ?_
   refine J_seq ?_
   refine Sr ?_
   refine Lq (Q_move rfl) ?_
   refine Ln ?_
   refine J_condT rfl ?_
   refine Sr ?_
   refine Lq (Q_move rfl) ?_
   refine Lq (Q_nilCheck rfl) ?_
   refine Lq (Q_fa0 rfl) ?_
   refine Lq (Q_ld 0 rfl rfl rfl rfl) ?_
   refine Lq (Q_move rfl) ?_
   refine Lq (Q_ixAt 1 i rfl rfl rfl rfl hlt rfl) ?_
   refine Lq (Q_pfa rfl) ?_
   refine Lq (Q_ldEAt 1 i 1 (v := str u) rfl rfl rfl rfl hlt (by decide) (by rw [hgi]; rfl)) ?_
   refine Lq (Q_assign rfl) ?_
   refine Lq (Q_assign rfl) ?_
   refine Ln ?_
   refine J_ret ?_
   refine seqQ_ret ?_
   refine blockQ_ret ?_
   refine loopQ_ret ?_
   refine blockQ_ret ?_
   exact retQ_ret _ [treeA p0 l] (.cons (RV_tmp rfl) (.cons (RV_tmp rfl) .nil)) ⟨rfl, rfl⟩ ((Ent.innerA hes).trans hcl)
  | false =>
   obtain ⟨K1, K2, hK, hp, hk1, hk2⟩ := miss_split hku hb
   rw [hb] at hf
   generalize posK Kt k = i at *
   subst hK
   obtain ⟨A, e, B, rfl, hAi⟩ := split_at (l := es) (i := i) (by simp at hel hpl ⊢; omega)
   subst hAi
   subst hes
   have hwe : wf 3 d e.2 := hwc e.2 (by simp)
   have hu2 := hu
   simp only [List.map_append, List.map_cons] at hu2
   obtain ⟨n1, n2, n3, _, _, n6, n7⟩ := inner_miss (by simpa using hp) hu2 hk1 hk2
   have hPlt : A.length < (pL (A ++ e :: B)).length := by rw [pL_len]; simp
   have hPg : (pL (A ++ e :: B))[A.length] = some e.1 := mid_get _ A B e hPlt
   have hlf := leaf_ok E p S R (pL (A ++ e :: B))
   rw [show decide (((pL (A ++ e :: B)).length : Int) = 0) = false from decide_eq_false (by rw [pL_len]; simp; omega)] at hlf
   refine J_block ?_
   refine Sr ?_
   refine Lq (Q_move rfl) ?_
   refine Lq (Q_move rfl) ?_
   refine L_o rfl rfl rfl (O_call [0,1] [2,3,4] hf rfl rfl ?_)
   rintro _ _ ⟨rfl, rfl⟩
   refine JL.norm ?_
   refine Lq (Q_move rfl) ?_
   refine Lq (Q_extract (v := .int .i64 (A.length : Int)) rfl rfl) ?_
   refine Lq (Q_extract (v := .bool false) rfl rfl) ?_
   refine Lq (Q_assign rfl) ?_
   refine Lq (Q_assign rfl) ?_
   refine Ln ?_
   refine J_seq ?_
   refine Sr ?_
   refine Lq (Q_move rfl) ?_
   refine Ln ?_
   refine J_condF rfl ?_
   refine J_skip ?_
   refine seqQ_normal ?_
   refine J_seq ?_
   refine Sr ?_
   refine Lq (Q_move rfl) ?_
   refine L_o rfl rfl rfl (O_call [0,2] [1,3,4] hlf rfl rfl ?_)
   rintro _ _ ⟨rfl, rfl⟩
   refine JL.norm ?_
   refine Ln ?_
   refine J_condF rfl ?_
   refine J_skip ?_
   refine seqQ_normal ?_
   refine J_region ?_
   refine Lq (Q_move rfl) ?_
   refine Lq (Q_nilCheck rfl) ?_
   refine Lq (Q_fa0 rfl) ?_
   refine Lq (Q_ld 0 rfl rfl rfl rfl) ?_
   refine Lq (Q_move rfl) ?_
   refine Lq (Q_ixAt 1 A.length rfl rfl rfl rfl hPlt rfl) ?_
   refine Lq (Q_ldEAt 1 A.length 0 (v := .pointer (some ⟨e.1, 0, none⟩)) rfl rfl rfl rfl hPlt (by decide) (by rw [hPg]; rfl)) ?_
   refine Lq (Q_assign rfl) ?_
   refine JL_nil ?_
   refine blockQ_normal ?_
   refine loopQ_normal ⟨d, e.1, 3, e.2, stars (parL p S R (K1 ++ K2) (pL A ++ some e.1 :: pL B) (A ++ B) G)⟩ ⟨hwe, n1, by rw [← n6]; simpa using hh, by rw [← n7]; simpa using hg, Ent.up.trans hcl⟩ (Nat.lt_succ_self d) ⟨rfl, rfl, trivial⟩ (Ent.trans ?_ (Ent.downN (G := G)))
   exact Ent.re [0,2,1,3,4] rfl
end Go.Proofs.Bt
/- Two children of a node merged, or a pair moved from one to the other. -/
set_option autoImplicit false
namespace Go.SL
/-- A slice's beginning. -/
theorem Ent.begin {α : Type} {τ : Ty α} {L : List HProp} (i : Nat) {S : SV} {l : List α} (hi : L[i]? = some (slc τ true S l)) (k : Nat) (hk : k ≤ l.length) : Ent L (L.set i (slc τ true (S.sub τ.sz 0 k) (l.take k))) := fun E w h => by
 have h1 := h.sub_at i hi 0 k (Nat.zero_le _) hk
 rw [List.drop_zero] at h1
 exact h1
end Go.SL
namespace Go.Proofs.Bt
open Go.SL
theorem Ent.two_out {d : Nat} {A B : List (Nat × T d)} {x y : Nat × T d} {X Y Z F : HProp} : Ent [X, Y, Z, stars ((A ++ x :: y :: B).map (ndE d)), F] [nodeA d x.1 x.2, nodeA d y.1 y.2, stars ((A ++ B).map (ndE d)), X, Y, Z, F] :=
 (Ent.re [3,0,1,2,4] rfl).trans ((Ent.mid_out (ndE d) A x (y :: B)).trans ((Ent.re [1,0,2,3,4,5] rfl).trans ((Ent.mid_out (ndE d) A y B).trans (Ent.re [2,0,1,3,4,5,6] rfl))))
theorem Ent.two_back {d : Nat} {A B : List (Nat × T d)} {x y : Nat × T d} {X Y Z F : HProp} : Ent [nodeA d x.1 x.2, nodeA d y.1 y.2, stars ((A ++ B).map (ndE d)), X, Y, Z, F] ([X, Y, Z, stars ((A ++ x :: y :: B).map (ndE d))] ++ [F]) :=
 (Ent.re [1,2,0,3,4,5,6] rfl).trans (two_in A B x.1 y.1 x.2 y.2 X Y Z F)
theorem del_mid {α : Type} {X Y : List α} {x : α} {i : Nat} (h : X.length = i) : (X ++ x :: Y).take i ++ (X ++ x :: Y).drop (i + 1) = X ++ Y := by
 subst h
 rw [List.take_left]
 have := List.drop_left (l₁ := X ++ [x]) (l₂ := Y)
 simp only [List.length_append, List.length_singleton, List.append_assoc, List.singleton_append] at this
 rw [this]
theorem pL_2 {d : Nat} (A B : List (Nat × T d)) (x y : Nat × T d) : pL (A ++ x :: y :: B) = (pL A ++ [some x.1]) ++ some y.1 :: pL B := by simp [pL]
theorem pL_1 {d : Nat} (A B : List (Nat × T d)) (x : Nat × T d) : pL (A ++ x :: B) = (pL A ++ [some x.1]) ++ pL B := by simp [pL]
theorem pL_get1 {d : Nat} (A B : List (Nat × T d)) (x y : Nat × T d) (h : A.length < (pL (A ++ x :: y :: B)).length) : (pL (A ++ x :: y :: B))[A.length] = some x.1 := mid_get _ A (y :: B) x h
theorem pL_get2 {d : Nat} (A B : List (Nat × T d)) (x y : Nat × T d) (h : A.length + 1 < (pL (A ++ x :: y :: B)).length) : (pL (A ++ x :: y :: B))[A.length + 1] = some y.1 := by
 have e : (pL (A ++ x :: y :: B))[A.length + 1]? = some (some y.1) := by
  rw [pL_2, List.getElem?_append_right (by simp [pL_len])]; simp [pL_len]
 rw [List.getElem?_eq_getElem h] at e
 exact Option.some.inj e
attribute [local irreducible] J JL QOp JOp seqQ blockQ loopQ retQ slc cel hex star pur stars Does RV Ent pAt scopeQ
attribute [local irreducible] nodeA nodeX treeA
theorem merge_ok (E : World) (d p : Nat) (S R : SV) (K1 K2 : List Kv) (k : Kv) (A B : List (Nat × T d)) (x y : Nat × T d) (hA : K1.length = A.length) (hx : wf 3 d x.2) (hy : wf 3 d y.2) (hx3 : (tks d x.2).length = 3) (hy3 : (tks d y.2).length = 3) (hK : K1.length + K2.length ≤ 1000) (hB : A.length + B.length ≤ 1000) :
 Does Tryz.prog E 167 [.pointer (some ⟨p, 0, none⟩), .int .i64 (A.length : Int)] [ndC p S R, slc tKv true S (K1 ++ k :: K2), slc tNd true R (pL (A ++ x :: y :: B)), stars ((A ++ x :: y :: B).map (ndE d))]
 fun v L => v = .tuple #[] ∧ ∃ (S' R' : SV) (cm : T d), flat d cm = flat d x.2 ++ k :: flat d y.2 ∧ wf 7 d cm ∧ (tks d cm).length = 7 ∧ L = [ndC p S' R', slc tKv true S' (K1 ++ K2), slc tNd true R' (pL (A ++ (x.1, cm) :: B)), stars ((A ++ (x.1, cm) :: B).map (ndE d))] := by
 obtain ⟨qx, cx⟩ := x
 obtain ⟨qy, cy⟩ := y
 dsimp only at hx hy hx3 hy3 ⊢
 have hKl : A.length < (K1 ++ k :: K2).length := by simp; omega
 have hKg : (K1 ++ k :: K2)[A.length] = k := get_mid hA hKl
 have hP1 : A.length < (pL (A ++ (qx, cx) :: (qy, cy) :: B)).length := by rw [pL_len]; simp
 have hP2 : A.length + 1 < (pL (A ++ (qx, cx) :: (qy, cy) :: B)).length := by rw [pL_len]; simp
 have hP3 : A.length + 2 ≤ (pL (A ++ (qx, cx) :: (qy, cy) :: B)).length := by rw [pL_len]; simp
 have hPb : (pL (A ++ (qx, cx) :: (qy, cy) :: B)).length ≤ 100000 := by rw [pL_len]; simp; omega
 have g1 := pL_get1 A B (qx, cx) (qy, cy) hP1
 have g2 := pL_get2 A B (qx, cx) (qy, cy) hP2
 have eK : (K1 ++ k :: K2).take A.length ++ (K1 ++ k :: K2).drop (A.length + 1) = K1 ++ K2 := del_mid hA
 have eP : ∀ cm : T d, (pL (A ++ (qx, cx) :: (qy, cy) :: B)).take (A.length + 1) ++ (pL (A ++ (qx, cx) :: (qy, cy) :: B)).drop (A.length + 2) = pL (A ++ (qx, cm) :: B) := fun cm => by
  rw [pL_2, del_mid (by simp [pL_len]), pL_1]
 refine Does.of Tryz.func167 rfl Tryz.ntmps167 rfl rfl fun F => ?_
 refine J.norm ?_
 refine J_seq ?_
 refine DH [0,2] [0,1,2,3,4,5,6,7,8,9,10,11,12,13,14,15,16] (.quiet 0 (.quiet 1 (.quiet 2 (.quiet 3 (.quiet 4 (.quiet 5 (.quiet 6 (.quiet 7 (.quiet 8 (.quiet 9 (.quiet 10 (.quiet 11 (.quiet 12 (.quiet 13 (.quiet 14 (.quiet 15 (.quiet 16 .done))))))))))))))))) Tryz.mixed ?_
 refine Sq (Ent.re [0,2] rfl) rfl (Q_move rfl) ?_
 refine Sq (Ent.re [0,2] rfl) rfl (Q_nilCheck rfl) ?_
 refine Sq (Ent.re [0,2] rfl) rfl (Q_fa0 rfl) ?_
 refine Sq (Ent.re [0,2] rfl) rfl (Q_ld 0 rfl rfl rfl rfl) ?_
 refine Sq (Ent.re [0,2] rfl) rfl (Q_move rfl) ?_
 refine Sq (Ent.re [0,2] rfl) rfl (Q_ixAt 1 A.length rfl rfl rfl rfl hP1 rfl) ?_
 refine Sq (Ent.re [0,2] rfl) rfl (Q_ldEAt 1 A.length 0 (v := .pointer (some ⟨qx, 0, none⟩)) rfl rfl rfl rfl hP1 (by decide) (by rw [g1]; rfl)) ?_
 refine Sq (Ent.re [0,2] rfl) rfl (Q_move rfl) ?_
 refine Sq (Ent.re [0,2] rfl) rfl (Q_nilCheck rfl) ?_
 refine Sq (Ent.re [0,2] rfl) rfl (Q_fa0 rfl) ?_
 refine Sq (Ent.re [0,2] rfl) rfl (Q_ld 0 rfl rfl rfl rfl) ?_
 refine Sq (Ent.re [0,2] rfl) rfl (Q_move rfl) ?_
 refine Sq (Ent.re [0,2] rfl) rfl (Q_add rfl rfl (by first | exact IntWalk.i64_in _ (by omega) | exact IntWalk.u8_in _ (by omega) | exact IntWalk.u32_in _ (by omega) | exact IntWalk.u64_in _ (by omega) | rfl)) ?_
 refine Sq (Ent.re [0,2] rfl) rfl (Q_ixAt 1 (A.length + 1) rfl rfl rfl rfl hP2 rfl) ?_
 refine Sq (Ent.re [0,2] rfl) rfl (Q_ldEAt 1 (A.length + 1) 0 (v := .pointer (some ⟨qy, 0, none⟩)) rfl rfl rfl rfl hP2 (by decide) (by rw [g2]; rfl)) ?_
 refine Sq (Ent.re [0,2] rfl) rfl (Q_assign rfl) ?_
 refine Sq (Ent.re [0,2] rfl) rfl (Q_assign rfl) ?_
 refine S_nil ?_
 refine seqQ_normal ?_
 refine J_seq ?_
 refine J.ent Ent.two_out ?_
 cases d with
 | zero =>
  refine J.leaf fun Sx Rx => J.ent (Ent.re [3,0,1,2,4,5,6,7,8] rfl) (J.leaf fun Sy Ry => ?_)
  dsimp only
  have hxl : (tks 0 cx).length = 3 := hx3
  have hyl : (tks 0 cy).length = 3 := hy3
  refine DH [3,7,8,0] [0,1,2,3,4,5,6,7,8,9,10,11,14,15,16,17,19,20] (.quiet 0 (.quiet 1 (.quiet 2 (.quiet 3 (.quiet 4 (.quiet 5 (.quiet 6 (.quiet 7 (.quiet 8 (.quiet 9 (.quiet 10 (.quiet 11 (.quiet 14 (.quiet 15 (.quiet 16 (.quiet 17 (.loud 12 (.loud 13 (.loud 18 (.quiet 19 (.quiet 20 (.loud 21 .done)))))))))))))))))))))) Tryz.mixed ?_
  refine Sq (Ent.re [3,7,8,0] rfl) rfl (Q_move rfl) ?_
  refine Sq (Ent.re [3,7,8,0] rfl) rfl (Q_move rfl) ?_
  refine Sq (Ent.re [3,7,8,0] rfl) rfl (Q_nilCheck rfl) ?_
  refine Sq (Ent.re [3,7,8,0] rfl) rfl (Q_fa0 rfl) ?_
  refine Sq (Ent.re [3,7,8,0] rfl) rfl (Q_ld 0 rfl rfl rfl rfl) ?_
  refine Sq (Ent.re [3,7,8,0] rfl) rfl (Q_move rfl) ?_
  refine Sq (Ent.re [3,7,8,0] rfl) rfl (Q_nilCheck rfl) ?_
  refine Sq (Ent.re [3,7,8,0] rfl) rfl (Q_fa0 rfl) ?_
  refine Sq (Ent.re [3,7,8,0] rfl) rfl (Q_ld 1 rfl rfl rfl rfl) ?_
  refine Sq (Ent.re [3,7,8,0] rfl) rfl (Q_move rfl) ?_
  refine Sq (Ent.re [3,7,8,0] rfl) rfl (Q_ixAt 2 A.length rfl rfl rfl rfl hKl rfl) ?_
  refine Sq (Ent.re [3,7,8,0] rfl) rfl (Q_ldEAAt 2 A.length 0 (vs := kvV k) rfl rfl rfl rfl hKl (by decide) (by rw [hKg]; rfl)) ?_
  refine Sq (Ent.re [3,7,8,0] rfl) rfl (Q_move rfl) ?_
  refine Sq (Ent.re [3,7,8,0] rfl) rfl (Q_nilCheck rfl) ?_
  refine Sq (Ent.re [3,7,8,0] rfl) rfl (Q_fa0 rfl) ?_
  refine Sq (Ent.re [3,7,8,0] rfl) rfl (Q_ld 3 rfl rfl rfl rfl) ?_
  refine S_o rfl rfl rfl rfl (O_litP (τ := tKv) (m := 1) (sz := 2) [k] rfl rfl rfl rfl rfl rfl (by decide) (fun U => ⟨_, fun _ => ⟨Ent.reN [4,8,9,1] rfl, Ent.refl _⟩, ?_⟩))
  refine JS.norm ?_
  refine S_o rfl rfl rfl rfl (O_app (τ := tKv) 5 rfl (fun w h => h.rd 0 rfl) rfl rfl rfl rfl (by simp only [List.length_singleton]; omega) (by decide) (fun V => ⟨_, fun _ => ⟨Ent.reN [4,8,9,1] rfl, Ent.refl _⟩, ?_⟩))
  refine JS.norm ?_
  refine S_o rfl rfl rfl rfl (O_app (τ := tKv) 5 rfl (fun w h => h.rd 2 rfl) rfl rfl rfl rfl (by simp only [List.length_append, List.length_singleton]; omega) (by decide) (fun W => ⟨_, fun _ => ⟨Ent.reN [4,8,9,1] rfl, Ent.refl _⟩, ?_⟩))
  refine JS.norm ?_
  refine Sq (Ent.re [4,8,9,1] rfl) rfl (Q_nilCheck rfl) ?_
  refine Sq (Ent.re [4,8,9,1] rfl) rfl (Q_fa0 rfl) ?_
  refine S_s rfl rfl rfl (O_st1 4 rfl rfl rfl rfl rfl ⟨[], free_no (by kernel_rfl), ?_⟩)
  refine JS.norm ?_
  refine S_nil ?_
  refine seqQ_normal ?_
  refine J_seq ?_
  refine DH [4,1] [0,1,2,3,4,5,6,7,8,10,11] (.quiet 0 (.quiet 1 (.quiet 2 (.quiet 3 (.quiet 4 (.quiet 5 (.quiet 6 (.quiet 7 (.quiet 8 (.loud 9 (.quiet 10 (.quiet 11 (.loud 12 .done))))))))))))) Tryz.mixed ?_
  refine Sq (Ent.re [4,1] rfl) rfl (Q_move rfl) ?_
  refine Sq (Ent.re [4,1] rfl) rfl (Q_move rfl) ?_
  refine Sq (Ent.re [4,1] rfl) rfl (Q_nilCheck rfl) ?_
  refine Sq (Ent.re [4,1] rfl) rfl (Q_fa0 rfl) ?_
  refine Sq (Ent.re [4,1] rfl) rfl (Q_ld 0 rfl rfl rfl rfl) ?_
  refine Sq (Ent.re [4,1] rfl) rfl (Q_move rfl) ?_
  refine Sq (Ent.re [4,1] rfl) rfl (Q_nilCheck rfl) ?_
  refine Sq (Ent.re [4,1] rfl) rfl (Q_fa0 rfl) ?_
  refine Sq (Ent.re [4,1] rfl) rfl (Q_ld 1 rfl rfl rfl rfl) ?_
  refine S_o rfl rfl rfl rfl (O_app (τ := tNd) 6 rfl (fun w h => h.rd 3 rfl) rfl rfl rfl rfl (by simp only [List.length_nil]; omega) (by decide) (fun Rx2 => ⟨_, fun _ => ⟨Ent.reN [4,1] rfl, Ent.refl _⟩, ?_⟩))
  refine JS.norm ?_
  refine Sq (Ent.re [4,1] rfl) rfl (Q_nilCheck rfl) ?_
  refine Sq (Ent.re [4,1] rfl) rfl (Q_fa0 rfl) ?_
  refine S_s rfl rfl rfl (O_st1 4 rfl rfl rfl rfl rfl ⟨[], free_no (by kernel_rfl), ?_⟩)
  refine JS.norm ?_
  refine S_nil ?_
  refine seqQ_normal ?_
  refine Sr ?_
  refine Lq (Q_move rfl) ?_
  refine Lq (Q_move rfl) ?_
  refine Lq (Q_nilCheck rfl) ?_
  refine Lq (Q_fa0 rfl) ?_
  refine Lq (Q_ld 8 rfl rfl rfl rfl) ?_
  refine Lq (Q_move rfl) ?_
  refine Lq (Q_move rfl) ?_
  refine Lq (Q_add rfl rfl (by first | exact IntWalk.i64_in _ (by omega) | exact IntWalk.u8_in _ (by omega) | exact IntWalk.u32_in _ (by omega) | exact IntWalk.u64_in _ (by omega) | rfl)) ?_
  refine L_o rfl rfl rfl (O_call [9] [0,1,2,3,4,5,6,7,8,10,11] (kvdel_ok E S (K1 ++ k :: K2) A.length (A.length + 1) (by omega) hKl (by simp; omega)) rfl rfl ?_)
  rintro _ _ ⟨S2, rfl, rfl⟩
  refine JL.norm ?_
  refine Lq (Q_nilCheck rfl) ?_
  refine Lq (Q_fa0 rfl) ?_
  refine L_s rfl rfl (O_st1 9 rfl rfl rfl rfl rfl ?_)
  refine JL.norm ?_
  refine Ln ?_
  refine J_region ?_
  refine Lq (Q_move rfl) ?_
  refine Lq (Q_move rfl) ?_
  refine Lq (Q_nilCheck rfl) ?_
  refine Lq (Q_fa0 rfl) ?_
  refine Lq (Q_ld 9 rfl rfl rfl rfl) ?_
  refine Lq (Q_move rfl) ?_
  refine Lq (Q_add rfl rfl (by first | exact IntWalk.i64_in _ (by omega) | exact IntWalk.u8_in _ (by omega) | exact IntWalk.u32_in _ (by omega) | exact IntWalk.u64_in _ (by omega) | rfl)) ?_
  refine Lq (Q_move rfl) ?_
  refine Lq (Q_add rfl rfl (by first | exact IntWalk.i64_in _ (by omega) | exact IntWalk.u8_in _ (by omega) | exact IntWalk.u32_in _ (by omega) | exact IntWalk.u64_in _ (by omega) | rfl)) ?_
  refine L_o rfl rfl rfl (O_call [10] [0,1,2,3,4,5,6,7,8,9,11] (nddel_ok E R (pL (A ++ (qx, cx) :: (qy, cy) :: B)) (A.length + 1) (A.length + 2) (by omega) hP3 hPb) rfl rfl ?_)
  rintro _ _ ⟨R2, rfl, rfl⟩
  refine JL.norm ?_
  refine Lq (Q_nilCheck rfl) ?_
  refine Lq (Q_fa0 rfl) ?_
  refine L_s rfl rfl (O_st1 10 rfl rfl rfl rfl rfl ?_)
  refine JL.norm ?_
  refine JL_nil ?_
  have hcl : (tks 0 cx ++ [k] ++ tks 0 cy).length = 7 := by simp only [List.length_append, List.length_singleton]; omega
  rw [eK, eP (tks 0 cx ++ [k] ++ tks 0 cy : List Kv)]
  refine retQ_normal [] _ .nil ⟨rfl, S2, R2, (tks 0 cx ++ [k] ++ tks 0 cy : List Kv), by show tks 0 cx ++ [k] ++ tks 0 cy = tks 0 cx ++ k :: tks 0 cy; simp, ⟨Nat.le_of_eq hcl.symm, Nat.le_of_eq hcl⟩, hcl, rfl⟩ ?_
  refine (Ent.re [6,7,8,9,10,1,0,11] rfl).trans ?_
  refine (Ent.leafA (t := (tks 0 cx ++ [k] ++ tks 0 cy : List Kv))).trans ?_
  exact (Ent.mid_in (ndE 0) A (qx, (tks 0 cx ++ [k] ++ tks 0 cy : List Kv)) B).trans (Ent.re [1,2,3,0,4] rfl)
 | succ d =>
  obtain ⟨kx, ccx⟩ := cx
  obtain ⟨ky, ccy⟩ := cy
  refine J.inner fun Sx Rx exs hexs => J.ent (Ent.re [4,0,1,2,3,5,6,7,8,9] rfl) (J.inner fun Sy Ry eys heys => ?_)
  dsimp only at hexs heys ⊢
  have hxl : kx.length = 3 := hx3
  have hyl : ky.length = 3 := hy3
  have hcx : ccx.length = 4 := by have h : ccx.length = kx.length + 1 := hx.2.2.1; omega
  have hcy : ccy.length = 4 := by have h : ccy.length = ky.length + 1 := hy.2.2.1; omega
  have hex : exs.length = 4 := by rw [← hcx, ← hexs, List.length_map]
  have hey : eys.length = 4 := by rw [← hcy, ← heys, List.length_map]
  refine DH [4,9,10,0] [0,1,2,3,4,5,6,7,8,9,10,11,14,15,16,17,19,20] (.quiet 0 (.quiet 1 (.quiet 2 (.quiet 3 (.quiet 4 (.quiet 5 (.quiet 6 (.quiet 7 (.quiet 8 (.quiet 9 (.quiet 10 (.quiet 11 (.quiet 14 (.quiet 15 (.quiet 16 (.quiet 17 (.loud 12 (.loud 13 (.loud 18 (.quiet 19 (.quiet 20 (.loud 21 .done)))))))))))))))))))))) Tryz.mixed ?_
  refine Sq (Ent.re [4,9,10,0] rfl) rfl (Q_move rfl) ?_
  refine Sq (Ent.re [4,9,10,0] rfl) rfl (Q_move rfl) ?_
  refine Sq (Ent.re [4,9,10,0] rfl) rfl (Q_nilCheck rfl) ?_
  refine Sq (Ent.re [4,9,10,0] rfl) rfl (Q_fa0 rfl) ?_
  refine Sq (Ent.re [4,9,10,0] rfl) rfl (Q_ld 0 rfl rfl rfl rfl) ?_
  refine Sq (Ent.re [4,9,10,0] rfl) rfl (Q_move rfl) ?_
  refine Sq (Ent.re [4,9,10,0] rfl) rfl (Q_nilCheck rfl) ?_
  refine Sq (Ent.re [4,9,10,0] rfl) rfl (Q_fa0 rfl) ?_
  refine Sq (Ent.re [4,9,10,0] rfl) rfl (Q_ld 1 rfl rfl rfl rfl) ?_
  refine Sq (Ent.re [4,9,10,0] rfl) rfl (Q_move rfl) ?_
  refine Sq (Ent.re [4,9,10,0] rfl) rfl (Q_ixAt 2 A.length rfl rfl rfl rfl hKl rfl) ?_
  refine Sq (Ent.re [4,9,10,0] rfl) rfl (Q_ldEAAt 2 A.length 0 (vs := kvV k) rfl rfl rfl rfl hKl (by decide) (by rw [hKg]; rfl)) ?_
  refine Sq (Ent.re [4,9,10,0] rfl) rfl (Q_move rfl) ?_
  refine Sq (Ent.re [4,9,10,0] rfl) rfl (Q_nilCheck rfl) ?_
  refine Sq (Ent.re [4,9,10,0] rfl) rfl (Q_fa0 rfl) ?_
  refine Sq (Ent.re [4,9,10,0] rfl) rfl (Q_ld 3 rfl rfl rfl rfl) ?_
  refine S_o rfl rfl rfl rfl (O_litP (τ := tKv) (m := 1) (sz := 2) [k] rfl rfl rfl rfl rfl rfl (by decide) (fun U => ⟨_, fun _ => ⟨Ent.reN [5,10,11,1] rfl, Ent.refl _⟩, ?_⟩))
  refine JS.norm ?_
  refine S_o rfl rfl rfl rfl (O_app (τ := tKv) 6 rfl (fun w h => h.rd 0 rfl) rfl rfl rfl rfl (by simp only [List.length_singleton]; omega) (by decide) (fun V => ⟨_, fun _ => ⟨Ent.reN [5,10,11,1] rfl, Ent.refl _⟩, ?_⟩))
  refine JS.norm ?_
  refine S_o rfl rfl rfl rfl (O_app (τ := tKv) 6 rfl (fun w h => h.rd 2 rfl) rfl rfl rfl rfl (by simp only [List.length_append, List.length_singleton]; omega) (by decide) (fun W => ⟨_, fun _ => ⟨Ent.reN [5,10,11,1] rfl, Ent.refl _⟩, ?_⟩))
  refine JS.norm ?_
  refine Sq (Ent.re [5,10,11,1] rfl) rfl (Q_nilCheck rfl) ?_
  refine Sq (Ent.re [5,10,11,1] rfl) rfl (Q_fa0 rfl) ?_
  refine S_s rfl rfl rfl (O_st1 5 rfl rfl rfl rfl rfl ⟨[], free_no (by kernel_rfl), ?_⟩)
  refine JS.norm ?_
  refine S_nil ?_
  refine seqQ_normal ?_
  refine J_seq ?_
  refine J.ent (Ent.re [1,2,3,4,5,6,7,8,9,10,11,12,13] rfl) ?_
  refine DH [4,0] [0,1,2,3,4,5,6,7,8,10,11] (.quiet 0 (.quiet 1 (.quiet 2 (.quiet 3 (.quiet 4 (.quiet 5 (.quiet 6 (.quiet 7 (.quiet 8 (.loud 9 (.quiet 10 (.quiet 11 (.loud 12 .done))))))))))))) Tryz.mixed ?_
  refine Sq (Ent.re [4,0] rfl) rfl (Q_move rfl) ?_
  refine Sq (Ent.re [4,0] rfl) rfl (Q_move rfl) ?_
  refine Sq (Ent.re [4,0] rfl) rfl (Q_nilCheck rfl) ?_
  refine Sq (Ent.re [4,0] rfl) rfl (Q_fa0 rfl) ?_
  refine Sq (Ent.re [4,0] rfl) rfl (Q_ld 0 rfl rfl rfl rfl) ?_
  refine Sq (Ent.re [4,0] rfl) rfl (Q_move rfl) ?_
  refine Sq (Ent.re [4,0] rfl) rfl (Q_nilCheck rfl) ?_
  refine Sq (Ent.re [4,0] rfl) rfl (Q_fa0 rfl) ?_
  refine Sq (Ent.re [4,0] rfl) rfl (Q_ld 1 rfl rfl rfl rfl) ?_
  refine S_o rfl rfl rfl rfl (O_app (τ := tNd) 6 rfl (fun w h => h.rd 2 rfl) rfl rfl rfl rfl (by simp only [List.length_map]; omega) (by decide) (fun Rx2 => ⟨_, fun _ => ⟨Ent.reN [4,0] rfl, Ent.refl _⟩, ?_⟩))
  refine JS.norm ?_
  refine Sq (Ent.re [4,0] rfl) rfl (Q_nilCheck rfl) ?_
  refine Sq (Ent.re [4,0] rfl) rfl (Q_fa0 rfl) ?_
  refine S_s rfl rfl rfl (O_st1 4 rfl rfl rfl rfl rfl ⟨[], free_no (by kernel_rfl), ?_⟩)
  refine JS.norm ?_
  refine S_nil ?_
  refine seqQ_normal ?_
  refine Sr ?_
  refine Lq (Q_move rfl) ?_
  refine Lq (Q_move rfl) ?_
  refine Lq (Q_nilCheck rfl) ?_
  refine Lq (Q_fa0 rfl) ?_
  refine Lq (Q_ld 9 rfl rfl rfl rfl) ?_
  refine Lq (Q_move rfl) ?_
  refine Lq (Q_move rfl) ?_
  refine Lq (Q_add rfl rfl (by first | exact IntWalk.i64_in _ (by omega) | exact IntWalk.u8_in _ (by omega) | exact IntWalk.u32_in _ (by omega) | exact IntWalk.u64_in _ (by omega) | rfl)) ?_
  refine L_o rfl rfl rfl (O_call [10] [0,1,2,3,4,5,6,7,8,9,11,12] (kvdel_ok E S (K1 ++ k :: K2) A.length (A.length + 1) (by omega) hKl (by simp; omega)) rfl rfl ?_)
  rintro _ _ ⟨S2, rfl, rfl⟩
  refine JL.norm ?_
  refine Lq (Q_nilCheck rfl) ?_
  refine Lq (Q_fa0 rfl) ?_
  refine L_s rfl rfl (O_st1 10 rfl rfl rfl rfl rfl ?_)
  refine JL.norm ?_
  refine Ln ?_
  refine J_region ?_
  refine Lq (Q_move rfl) ?_
  refine Lq (Q_move rfl) ?_
  refine Lq (Q_nilCheck rfl) ?_
  refine Lq (Q_fa0 rfl) ?_
  refine Lq (Q_ld 10 rfl rfl rfl rfl) ?_
  refine Lq (Q_move rfl) ?_
  refine Lq (Q_add rfl rfl (by first | exact IntWalk.i64_in _ (by omega) | exact IntWalk.u8_in _ (by omega) | exact IntWalk.u32_in _ (by omega) | exact IntWalk.u64_in _ (by omega) | rfl)) ?_
  refine Lq (Q_move rfl) ?_
  refine Lq (Q_add rfl rfl (by first | exact IntWalk.i64_in _ (by omega) | exact IntWalk.u8_in _ (by omega) | exact IntWalk.u32_in _ (by omega) | exact IntWalk.u64_in _ (by omega) | rfl)) ?_
  refine L_o rfl rfl rfl (O_call [11] [0,1,2,3,4,5,6,7,8,9,10,12] (nddel_ok E R (pL (d := d + 1) (A ++ ((qx, (kx, ccx)) :: (qy, (ky, ccy)) :: B : List (Nat × T (d + 1))))) (A.length + 1) (A.length + 2) (by omega) hP3 hPb) rfl rfl ?_)
  rintro _ _ ⟨R2, rfl, rfl⟩
  refine JL.norm ?_
  refine Lq (Q_nilCheck rfl) ?_
  refine Lq (Q_fa0 rfl) ?_
  refine L_s rfl rfl (O_st1 11 rfl rfl rfl rfl rfl ?_)
  refine JL.norm ?_
  refine JL_nil ?_
  have hcl : (kx ++ [k] ++ ky).length = 7 := by simp only [List.length_append, List.length_singleton]; omega
  have hjn : flat (d + 1) (kx ++ [k] ++ ky, ccx ++ ccy) = flat (d + 1) (kx, ccx) ++ k :: flat (d + 1) (ky, ccy) := by
   simp only [flat, List.map_append]
   have := ileave_join kx ky k (ccx.map (flat d)) (ccy.map (flat d)) (by simp; omega)
   rw [← this]; simp
  rw [eK, eP (kx ++ [k] ++ ky, ccx ++ ccy)]
  refine retQ_normal [] _ .nil ⟨rfl, S2, R2, (kx ++ [k] ++ ky, ccx ++ ccy), hjn, ⟨Nat.le_of_eq hcl.symm, Nat.le_of_eq hcl, by simp only [List.length_append, List.length_singleton]; omega, fun c hc => (List.mem_append.1 hc).elim (hx.2.2.2 c) (hy.2.2.2 c)⟩, hcl, rfl⟩ ?_
  rw [show (exs.map fun e => some e.1) ++ (eys.map fun e => some e.1) = (exs ++ eys).map fun e => some e.1 from List.map_append.symm]
  refine (Ent.re [9,5,6,7,8,10,11,1,0,12] rfl).trans ?_
  refine Ent.stars_join.trans ?_
  rw [← List.map_append]
  refine (Ent.re [1,2,3,0,4,5,6,7,8] rfl).trans ?_
  refine (Ent.innerA (es := exs ++ eys) (K := kx ++ [k] ++ ky) (C := ccx ++ ccy) (by rw [List.map_append, hexs, heys])).trans ?_
  exact (Ent.mid_in (ndE (d + 1)) A (qx, ((kx ++ [k] ++ ky, ccx ++ ccy) : T (d + 1))) B).trans (Ent.re [1,2,3,0,4] rfl)
end Go.Proofs.Bt
/- A pair moved from one child to its neighbour. -/
set_option autoImplicit false
namespace Go.Proofs.Bt
open Go.SL
theorem snoc_of {α : Type} {l : List α} (h : 1 ≤ l.length) : ∃ X g, l = X ++ [g] := by
 obtain ⟨A, e, B, rfl, hA⟩ := split_at (l := l) (i := l.length - 1) (by omega)
 have : B = [] := List.eq_nil_of_length_eq_zero (by simp only [List.length_append, List.length_cons] at h hA; omega)
 subst this
 exact ⟨A, e, rfl⟩
theorem cons_of {α : Type} {l : List α} (h : 1 ≤ l.length) : ∃ g X, l = g :: X := by
 cases l with
 | nil => simp at h
 | cons g X => exact ⟨g, X, rfl⟩
theorem pL_same {d : Nat} (A B : List (Nat × T d)) (x y : Nat × T d) (a b : T d) : pL (A ++ x :: y :: B) = pL (A ++ (x.1, a) :: (y.1, b) :: B) := by simp [pL]
theorem Ent.two_back2 {d : Nat} {A B : List (Nat × T d)} {x y : Nat × T d} {R : SV} {P : List (Option Nat)} {X Y F : HProp} (hP : P = pL (A ++ x :: y :: B)) : Ent [nodeA d x.1 x.2, nodeA d y.1 y.2, stars ((A ++ B).map (ndE d)), X, Y, slc tNd true R P, F] ([X, Y, slc tNd true R (pL (A ++ x :: y :: B)), stars ((A ++ x :: y :: B).map (ndE d))] ++ [F]) := by
 subst hP
 exact Ent.two_back
attribute [local irreducible] J JL QOp JOp seqQ blockQ loopQ retQ slc cel hex star pur stars Does RV Ent pAt scopeQ
attribute [local irreducible] nodeA nodeX treeA
theorem fromLeft_ok (E : World) (d p : Nat) (S R : SV) (K1 K2 : List Kv) (k : Kv) (A B : List (Nat × T d)) (x y : Nat × T d) (hA : K1.length = A.length) (hx : wf 4 d x.2) (hy : wf 3 d y.2) (hx6 : (tks d y.2).length ≤ 6) (hK : K1.length + K2.length ≤ 1000) (hB : A.length + B.length ≤ 1000) :
 Does Tryz.prog E 168 [.pointer (some ⟨p, 0, none⟩), .int .i64 ((A.length + 1 : Nat) : Int)] [ndC p S R, slc tKv true S (K1 ++ k :: K2), slc tNd true R (pL (A ++ x :: y :: B)), stars ((A ++ x :: y :: B).map (ndE d))]
 fun v L => v = .tuple #[] ∧ ∃ (k' : Kv) (cx cy : T d) (mid : List Kv), flat d x.2 = flat d cx ++ k' :: mid ∧ flat d cy = mid ++ k :: flat d y.2 ∧ wf 3 d cx ∧ wf 4 d cy ∧ L = [ndC p S R, slc tKv true S (K1 ++ k' :: K2), slc tNd true R (pL (A ++ (x.1, cx) :: (y.1, cy) :: B)), stars ((A ++ (x.1, cx) :: (y.1, cy) :: B).map (ndE d))] := by
 obtain ⟨qx, cx⟩ := x
 obtain ⟨qy, cy⟩ := y
 dsimp only at hx hy hx6 ⊢
 have hKl : A.length < (K1 ++ k :: K2).length := by simp; omega
 have hKg : (K1 ++ k :: K2)[A.length] = k := get_mid hA hKl
 have hP1 : A.length < (pL (A ++ (qx, cx) :: (qy, cy) :: B)).length := by rw [pL_len]; simp
 have hP2 : A.length + 1 < (pL (A ++ (qx, cx) :: (qy, cy) :: B)).length := by rw [pL_len]; simp
 have g1 := pL_get1 A B (qx, cx) (qy, cy) hP1
 have g2 := pL_get2 A B (qx, cx) (qy, cy) hP2
 have hset : ∀ g : Kv, (K1 ++ k :: K2).set A.length g = K1 ++ g :: K2 := fun g => set_mid hA
 refine Does.of Tryz.func168 rfl Tryz.ntmps168 rfl rfl fun F => ?_
 refine J.norm ?_
 refine J_seq ?_
 refine DH [0,2] [0,1,2,3,4,5,6,7,8,9,10,11,12,13,14,15,16] (.quiet 0 (.quiet 1 (.quiet 2 (.quiet 3 (.quiet 4 (.quiet 5 (.quiet 6 (.quiet 7 (.quiet 8 (.quiet 9 (.quiet 10 (.quiet 11 (.quiet 12 (.quiet 13 (.quiet 14 (.quiet 15 (.quiet 16 .done))))))))))))))))) Tryz.mixed ?_
 refine Sq (Ent.re [0,2] rfl) rfl (Q_move rfl) ?_
 refine Sq (Ent.re [0,2] rfl) rfl (Q_nilCheck rfl) ?_
 refine Sq (Ent.re [0,2] rfl) rfl (Q_fa0 rfl) ?_
 refine Sq (Ent.re [0,2] rfl) rfl (Q_ld 0 rfl rfl rfl rfl) ?_
 refine Sq (Ent.re [0,2] rfl) rfl (Q_move rfl) ?_
 refine Sq (Ent.re [0,2] rfl) rfl (Q_sub (r := (A.length : Int)) rfl rfl (by rw [show ((A.length + 1 : Nat) : Int) - 1 = (A.length : Int) by omega]; exact IntWalk.i64_in _ (by omega))) ?_
 refine Sq (Ent.re [0,2] rfl) rfl (Q_ixAt 1 A.length rfl rfl rfl rfl hP1 rfl) ?_
 refine Sq (Ent.re [0,2] rfl) rfl (Q_ldEAt 1 A.length 0 (v := .pointer (some ⟨qx, 0, none⟩)) rfl rfl rfl rfl hP1 (by decide) (by rw [g1]; rfl)) ?_
 refine Sq (Ent.re [0,2] rfl) rfl (Q_move rfl) ?_
 refine Sq (Ent.re [0,2] rfl) rfl (Q_nilCheck rfl) ?_
 refine Sq (Ent.re [0,2] rfl) rfl (Q_fa0 rfl) ?_
 refine Sq (Ent.re [0,2] rfl) rfl (Q_ld 0 rfl rfl rfl rfl) ?_
 refine Sq (Ent.re [0,2] rfl) rfl (Q_move rfl) ?_
 refine Sq (Ent.re [0,2] rfl) rfl (Q_ixAt 1 (A.length + 1) rfl rfl rfl rfl hP2 rfl) ?_
 refine Sq (Ent.re [0,2] rfl) rfl (Q_ldEAt 1 (A.length + 1) 0 (v := .pointer (some ⟨qy, 0, none⟩)) rfl rfl rfl rfl hP2 (by decide) (by rw [g2]; rfl)) ?_
 refine Sq (Ent.re [0,2] rfl) rfl (Q_assign rfl) ?_
 refine Sq (Ent.re [0,2] rfl) rfl (Q_assign rfl) ?_
 refine S_nil ?_
 refine seqQ_normal ?_
 refine J_seq ?_
 refine J.ent Ent.two_out ?_
 cases d with
 | zero =>
  refine J.leaf fun Sx Rx => J.ent (Ent.re [3,0,1,2,4,5,6,7,8] rfl) (J.leaf fun Sy Ry => ?_)
  dsimp only
  have h4 : 4 ≤ (tks 0 cx).length := (wf_ks hx).1
  have h7 : (tks 0 cx).length ≤ 7 := (wf_ks hx).2
  have h3 : 3 ≤ (tks 0 cy).length := (wf_ks hy).1
  have h6 : (tks 0 cy).length ≤ 6 := hx6
  have ex : flat 0 cx = tks 0 cx := rfl
  have ey : flat 0 cy = tks 0 cy := rfl
  rw [ex, ey]
  clear ex ey
  generalize tks 0 cx = X at *
  generalize tks 0 cy = Y at *
  obtain ⟨Xi, g, rfl⟩ := snoc_of (l := X) (by omega)
  simp only [List.length_append, List.length_singleton] at h4 h7
  have hxl : (Xi ++ [g]).length = Xi.length + 1 := by simp
  have hgl : Xi.length < (Xi ++ [g]).length := by omega
  have hgg : (Xi ++ [g])[Xi.length] = g := get_mid rfl hgl
  have hle : Xi.length ≤ (Xi ++ [g]).length := by omega
  have et : (Xi ++ [g]).take Xi.length = Xi := List.take_left
  refine J_region ?_
  refine Lq (Q_move rfl) ?_
  refine Lq (Q_nilCheck rfl) ?_
  refine Lq (Q_fa0 rfl) ?_
  refine Lq (Q_ld 3 rfl rfl rfl rfl) ?_
  refine Lq (Q_lenAt 4 rfl rfl) ?_
  refine Lq (Q_sub (r := (Xi.length : Int)) rfl rfl (by rw [show ((Xi ++ [g]).length : Int) - 1 = (Xi.length : Int) by omega]; exact IntWalk.i64_in _ (by omega))) ?_
  refine Lq (Q_assign rfl) ?_
  refine Ln ?_
  refine J_seq ?_
  refine DH [0,7,8] [0,1,2,3,4,5,6,7,8,9,10,11,12,15,16] (.quiet 0 (.quiet 1 (.quiet 2 (.quiet 3 (.quiet 4 (.quiet 5 (.quiet 6 (.quiet 7 (.quiet 8 (.quiet 9 (.quiet 10 (.quiet 11 (.quiet 12 (.loud 13 (.loud 14 (.quiet 15 (.quiet 16 (.loud 17 .done)))))))))))))))))) Tryz.mixed ?_
  refine Sq (Ent.re [0,7,8] rfl) rfl (Q_move rfl) ?_
  refine Sq (Ent.re [0,7,8] rfl) rfl (Q_move rfl) ?_
  refine Sq (Ent.re [0,7,8] rfl) rfl (Q_nilCheck rfl) ?_
  refine Sq (Ent.re [0,7,8] rfl) rfl (Q_fa0 rfl) ?_
  refine Sq (Ent.re [0,7,8] rfl) rfl (Q_ld 0 rfl rfl rfl rfl) ?_
  refine Sq (Ent.re [0,7,8] rfl) rfl (Q_move rfl) ?_
  refine Sq (Ent.re [0,7,8] rfl) rfl (Q_nilCheck rfl) ?_
  refine Sq (Ent.re [0,7,8] rfl) rfl (Q_fa0 rfl) ?_
  refine Sq (Ent.re [0,7,8] rfl) rfl (Q_ld 1 rfl rfl rfl rfl) ?_
  refine Sq (Ent.re [0,7,8] rfl) rfl (Q_move rfl) ?_
  refine Sq (Ent.re [0,7,8] rfl) rfl (Q_sub (r := (A.length : Int)) rfl rfl (by rw [show ((A.length + 1 : Nat) : Int) - 1 = (A.length : Int) by omega]; exact IntWalk.i64_in _ (by omega))) ?_
  refine Sq (Ent.re [0,7,8] rfl) rfl (Q_ixAt 2 A.length rfl rfl rfl rfl hKl rfl) ?_
  refine Sq (Ent.re [0,7,8] rfl) rfl (Q_ldEAAt 2 A.length 0 (vs := kvV k) rfl rfl rfl rfl hKl (by decide) (by rw [hKg]; rfl)) ?_
  refine S_o rfl rfl rfl rfl (O_litN (τ := tKv) (m := 1) (sz := 2) [k] rfl rfl rfl rfl rfl rfl (by decide) (by decide) (fun U => ⟨_, fun _ => ⟨Ent.reN [1,8,9] rfl, Ent.refl _⟩, ?_⟩))
  refine JS.norm ?_
  refine S_o rfl rfl rfl rfl (O_call [2,0] [1,3,4,5,6,7,8,9,10,11] (kvins_ok E Sy U Y k 0 (Nat.zero_le _) (by omega)) rfl rfl ?_)
  (rintro _ _ ⟨Sy2, rfl, rfl⟩; refine ⟨_, fun _ => ⟨Ent.reN [1,7,8] rfl, Ent.refl _⟩, ?_⟩)
  refine JS.norm ?_
  refine Sq (Ent.re [1,7,8] rfl) rfl (Q_nilCheck rfl) ?_
  refine Sq (Ent.re [1,7,8] rfl) rfl (Q_fa0 rfl) ?_
  refine S_s rfl rfl rfl (O_st1 1 rfl rfl rfl rfl rfl ⟨[], free_no (by kernel_rfl), ?_⟩)
  refine JS.norm ?_
  refine S_nil ?_
  refine seqQ_normal ?_
  refine J_seq ?_
  rw [List.take_zero, List.drop_zero, List.nil_append]
  refine DH [7,3,4,8] [0,1,2,3,4,5,6,7,8,9,10,11,12,13] (.quiet 0 (.quiet 1 (.quiet 2 (.quiet 3 (.quiet 4 (.quiet 5 (.quiet 6 (.quiet 7 (.quiet 8 (.quiet 9 (.quiet 10 (.quiet 11 (.quiet 12 (.quiet 13 (.loud 14 .done))))))))))))))) Tryz.mixed ?_
  refine Sq (Ent.re [7,3,4,8] rfl) rfl (Q_move rfl) ?_
  refine Sq (Ent.re [7,3,4,8] rfl) rfl (Q_nilCheck rfl) ?_
  refine Sq (Ent.re [7,3,4,8] rfl) rfl (Q_fa0 rfl) ?_
  refine Sq (Ent.re [7,3,4,8] rfl) rfl (Q_ld 0 rfl rfl rfl rfl) ?_
  refine Sq (Ent.re [7,3,4,8] rfl) rfl (Q_move rfl) ?_
  refine Sq (Ent.re [7,3,4,8] rfl) rfl (Q_sub (r := (A.length : Int)) rfl rfl (by rw [show ((A.length + 1 : Nat) : Int) - 1 = (A.length : Int) by omega]; exact IntWalk.i64_in _ (by omega))) ?_
  refine Sq (Ent.re [7,3,4,8] rfl) rfl (Q_move rfl) ?_
  refine Sq (Ent.re [7,3,4,8] rfl) rfl (Q_nilCheck rfl) ?_
  refine Sq (Ent.re [7,3,4,8] rfl) rfl (Q_fa0 rfl) ?_
  refine Sq (Ent.re [7,3,4,8] rfl) rfl (Q_ld 1 rfl rfl rfl rfl) ?_
  refine Sq (Ent.re [7,3,4,8] rfl) rfl (Q_move rfl) ?_
  refine Sq (Ent.re [7,3,4,8] rfl) rfl (Q_ixAt 2 Xi.length rfl rfl rfl rfl hgl rfl) ?_
  refine Sq (Ent.re [7,3,4,8] rfl) rfl (Q_ldEAAt 2 Xi.length 0 (vs := kvV g) rfl rfl rfl rfl hgl (by decide) (by rw [hgg]; rfl)) ?_
  refine Sq (Ent.re [7,3,4,8] rfl) rfl (Q_ixAt 3 A.length rfl rfl rfl rfl hKl rfl) ?_
  refine S_s rfl rfl rfl (O_stE 8 A.length 0 g rfl rfl rfl rfl rfl rfl (by intro c hc; simp [Value.cells] at hc; rcases hc with rfl | rfl <;> rfl) hKl (Nat.le_refl 2) (by simp [tKv, Value.cells]) ⟨[], free_no (by kernel_rfl), ?_⟩)
  refine JS.norm ?_
  refine S_nil ?_
  refine seqQ_normal ?_
  refine J_seq ?_
  rw [hset]
  refine J_region ?_
  refine Lq (Q_move rfl) ?_
  refine Lq (Q_move rfl) ?_
  refine Lq (Q_nilCheck rfl) ?_
  refine Lq (Q_fa0 rfl) ?_
  refine Lq (Q_ld 3 rfl rfl rfl rfl) ?_
  refine Lq (Q_move rfl) ?_
  refine Lq (Q_slH (τ := tKv) Xi.length (fun w h => h.rd 4 rfl) rfl rfl rfl hle rfl) ?_
  refine Lq (Q_nilCheck rfl) ?_
  refine Lq (Q_fa0 rfl) ?_
  refine L_s rfl rfl (O_st1 3 rfl rfl rfl rfl rfl ?_)
  refine JL.norm ?_
  refine Ln ?_
  refine J_seq ?_
  refine J.ent (Ent.begin (τ := tKv) 4 rfl Xi.length hle) ?_
  rw [et]
  simp only [List.set_cons_succ, List.set_cons_zero]
  refine J_region ?_
  refine Lq (Q_move rfl) ?_
  refine L_o rfl rfl rfl (O_call [3,5] [0,1,2,4,6,7,8,9,10] (leaf_ok E qx _ Rx []) rfl rfl ?_)
  rintro _ _ ⟨rfl, rfl⟩
  refine JL.norm ?_
  refine Lq ((Q_not rfl).as (v' := .bool false) rfl) ?_
  refine Ln ?_
  refine J_condF rfl ?_
  refine J_skip ?_
  refine retQ_normal [] _ .nil ⟨rfl, g, (Xi : List Kv), (k :: Y : List Kv), [], by simp [flat], by simp [flat], ⟨by show 3 ≤ Xi.length; omega, by show Xi.length ≤ 7; omega⟩, ⟨by show 4 ≤ (k :: Y).length; simp; omega, by show (k :: Y).length ≤ 7; simp; omega⟩, rfl⟩ ?_
  refine (Ent.re [0,5,1,3,2,4,6,7,8,9,10] rfl).trans ?_
  refine (Ent.leafA (t := (Xi : List Kv))).trans ?_
  refine (Ent.re [1,2,3,0,4,5,6,7,8] rfl).trans ?_
  refine (Ent.leafA (t := (k :: Y : List Kv))).trans ?_
  exact (Ent.re [1,0,2,3,4,5,6] rfl).trans (Ent.two_back2 (d := 0) (x := (qx, (Xi : List Kv))) (y := (qy, (k :: Y : List Kv))) (pL_same (d := 0) A B (qx, cx) (qy, cy) _ _))
 | succ d =>
  obtain ⟨kx, ccx⟩ := cx
  obtain ⟨ky, ccy⟩ := cy
  refine J.inner fun Sx Rx exs hexs => J.ent (Ent.re [4,0,1,2,3,5,6,7,8,9] rfl) (J.inner fun Sy Ry eys heys => ?_)
  obtain ⟨h4, h7, hcx, hwx⟩ := hx
  obtain ⟨h3, _, hcy, hwy⟩ := hy
  have h6 : ky.length ≤ 6 := hx6
  dsimp only at h4 h7 h3 hcx hcy hwx hwy hexs heys ⊢
  obtain ⟨Xi, g, rfl⟩ := snoc_of (l := kx) (by omega)
  have hxl : (Xi ++ [g]).length = Xi.length + 1 := by simp
  obtain ⟨es, eg, rfl⟩ := snoc_of (l := exs) (by rw [← hexs, List.length_map] at hcx; omega)
  subst hexs heys
  have hel : es.length = Xi.length + 1 := by simp at hcx; omega
  have hey : eys.length = ky.length + 1 := by simpa using hcy
  have hgl : Xi.length < (Xi ++ [g]).length := by omega
  have hgg : (Xi ++ [g])[Xi.length] = g := get_mid rfl hgl
  have hle : Xi.length ≤ (Xi ++ [g]).length := by omega
  have et : (Xi ++ [g]).take Xi.length = Xi := List.take_left
  have hpx : (pL (es ++ [eg])).length = Xi.length + 2 := by rw [pL_len]; simp; omega
  have hpg : Xi.length + 1 < (pL (es ++ [eg])).length := by omega
  have hpgg : (pL (es ++ [eg]))[Xi.length + 1] = some eg.1 := by simp only [← hel]; exact mid_get _ es [] eg _
  have hpt : (pL (es ++ [eg])).take (Xi.length + 1) = pL es := by rw [← hel, show pL (es ++ [eg]) = pL es ++ [some eg.1] from by simp [pL]]; simp [pL]
  have hlf := leaf_ok E qx (Sx.sub tKv.sz 0 Xi.length) Rx (pL (es ++ [eg]))
  rw [show decide (((pL (es ++ [eg])).length : Int) = 0) = false from decide_eq_false (by omega)] at hlf
  refine J_region ?_
  refine Lq (Q_move rfl) ?_
  refine Lq (Q_nilCheck rfl) ?_
  refine Lq (Q_fa0 rfl) ?_
  refine Lq (Q_ld 4 rfl rfl rfl rfl) ?_
  refine Lq (Q_lenAt 5 rfl rfl) ?_
  refine Lq (Q_sub (r := (Xi.length : Int)) rfl rfl (by rw [show ((Xi ++ [g]).length : Int) - 1 = (Xi.length : Int) by omega]; exact IntWalk.i64_in _ (by omega))) ?_
  refine Lq (Q_assign rfl) ?_
  refine Ln ?_
  refine J_seq ?_
  refine DH [0,9,10] [0,1,2,3,4,5,6,7,8,9,10,11,12,15,16] (.quiet 0 (.quiet 1 (.quiet 2 (.quiet 3 (.quiet 4 (.quiet 5 (.quiet 6 (.quiet 7 (.quiet 8 (.quiet 9 (.quiet 10 (.quiet 11 (.quiet 12 (.loud 13 (.loud 14 (.quiet 15 (.quiet 16 (.loud 17 .done)))))))))))))))))) Tryz.mixed ?_
  refine Sq (Ent.re [0,9,10] rfl) rfl (Q_move rfl) ?_
  refine Sq (Ent.re [0,9,10] rfl) rfl (Q_move rfl) ?_
  refine Sq (Ent.re [0,9,10] rfl) rfl (Q_nilCheck rfl) ?_
  refine Sq (Ent.re [0,9,10] rfl) rfl (Q_fa0 rfl) ?_
  refine Sq (Ent.re [0,9,10] rfl) rfl (Q_ld 0 rfl rfl rfl rfl) ?_
  refine Sq (Ent.re [0,9,10] rfl) rfl (Q_move rfl) ?_
  refine Sq (Ent.re [0,9,10] rfl) rfl (Q_nilCheck rfl) ?_
  refine Sq (Ent.re [0,9,10] rfl) rfl (Q_fa0 rfl) ?_
  refine Sq (Ent.re [0,9,10] rfl) rfl (Q_ld 1 rfl rfl rfl rfl) ?_
  refine Sq (Ent.re [0,9,10] rfl) rfl (Q_move rfl) ?_
  refine Sq (Ent.re [0,9,10] rfl) rfl (Q_sub (r := (A.length : Int)) rfl rfl (by rw [show ((A.length + 1 : Nat) : Int) - 1 = (A.length : Int) by omega]; exact IntWalk.i64_in _ (by omega))) ?_
  refine Sq (Ent.re [0,9,10] rfl) rfl (Q_ixAt 2 A.length rfl rfl rfl rfl hKl rfl) ?_
  refine Sq (Ent.re [0,9,10] rfl) rfl (Q_ldEAAt 2 A.length 0 (vs := kvV k) rfl rfl rfl rfl hKl (by decide) (by rw [hKg]; rfl)) ?_
  refine S_o rfl rfl rfl rfl (O_litN (τ := tKv) (m := 1) (sz := 2) [k] rfl rfl rfl rfl rfl rfl (by decide) (by decide) (fun U => ⟨_, fun _ => ⟨Ent.reN [1,10,11] rfl, Ent.refl _⟩, ?_⟩))
  refine JS.norm ?_
  refine S_o rfl rfl rfl rfl (O_call [2,0] [1,3,4,5,6,7,8,9,10,11,12,13] (kvins_ok E Sy U ky k 0 (Nat.zero_le _) (by omega)) rfl rfl ?_)
  (rintro _ _ ⟨Sy2, rfl, rfl⟩; refine ⟨_, fun _ => ⟨Ent.reN [1,9,10] rfl, Ent.refl _⟩, ?_⟩)
  refine JS.norm ?_
  refine Sq (Ent.re [1,9,10] rfl) rfl (Q_nilCheck rfl) ?_
  refine Sq (Ent.re [1,9,10] rfl) rfl (Q_fa0 rfl) ?_
  refine S_s rfl rfl rfl (O_st1 1 rfl rfl rfl rfl rfl ⟨[], free_no (by kernel_rfl), ?_⟩)
  refine JS.norm ?_
  refine S_nil ?_
  refine seqQ_normal ?_
  refine J_seq ?_
  rw [List.take_zero, List.drop_zero, List.nil_append]
  refine DH [9,4,5,10] [0,1,2,3,4,5,6,7,8,9,10,11,12,13] (.quiet 0 (.quiet 1 (.quiet 2 (.quiet 3 (.quiet 4 (.quiet 5 (.quiet 6 (.quiet 7 (.quiet 8 (.quiet 9 (.quiet 10 (.quiet 11 (.quiet 12 (.quiet 13 (.loud 14 .done))))))))))))))) Tryz.mixed ?_
  refine Sq (Ent.re [9,4,5,10] rfl) rfl (Q_move rfl) ?_
  refine Sq (Ent.re [9,4,5,10] rfl) rfl (Q_nilCheck rfl) ?_
  refine Sq (Ent.re [9,4,5,10] rfl) rfl (Q_fa0 rfl) ?_
  refine Sq (Ent.re [9,4,5,10] rfl) rfl (Q_ld 0 rfl rfl rfl rfl) ?_
  refine Sq (Ent.re [9,4,5,10] rfl) rfl (Q_move rfl) ?_
  refine Sq (Ent.re [9,4,5,10] rfl) rfl (Q_sub (r := (A.length : Int)) rfl rfl (by rw [show ((A.length + 1 : Nat) : Int) - 1 = (A.length : Int) by omega]; exact IntWalk.i64_in _ (by omega))) ?_
  refine Sq (Ent.re [9,4,5,10] rfl) rfl (Q_move rfl) ?_
  refine Sq (Ent.re [9,4,5,10] rfl) rfl (Q_nilCheck rfl) ?_
  refine Sq (Ent.re [9,4,5,10] rfl) rfl (Q_fa0 rfl) ?_
  refine Sq (Ent.re [9,4,5,10] rfl) rfl (Q_ld 1 rfl rfl rfl rfl) ?_
  refine Sq (Ent.re [9,4,5,10] rfl) rfl (Q_move rfl) ?_
  refine Sq (Ent.re [9,4,5,10] rfl) rfl (Q_ixAt 2 Xi.length rfl rfl rfl rfl hgl rfl) ?_
  refine Sq (Ent.re [9,4,5,10] rfl) rfl (Q_ldEAAt 2 Xi.length 0 (vs := kvV g) rfl rfl rfl rfl hgl (by decide) (by rw [hgg]; rfl)) ?_
  refine Sq (Ent.re [9,4,5,10] rfl) rfl (Q_ixAt 3 A.length rfl rfl rfl rfl hKl rfl) ?_
  refine S_s rfl rfl rfl (O_stE 10 A.length 0 g rfl rfl rfl rfl rfl rfl (by intro c hc; simp [Value.cells] at hc; rcases hc with rfl | rfl <;> rfl) hKl (Nat.le_refl 2) (by simp [tKv, Value.cells]) ⟨[], free_no (by kernel_rfl), ?_⟩)
  refine JS.norm ?_
  refine S_nil ?_
  refine seqQ_normal ?_
  refine J_seq ?_
  rw [hset]
  refine J_region ?_
  refine Lq (Q_move rfl) ?_
  refine Lq (Q_move rfl) ?_
  refine Lq (Q_nilCheck rfl) ?_
  refine Lq (Q_fa0 rfl) ?_
  refine Lq (Q_ld 4 rfl rfl rfl rfl) ?_
  refine Lq (Q_move rfl) ?_
  refine Lq (Q_slH (τ := tKv) Xi.length (fun w h => h.rd 5 rfl) rfl rfl rfl hle rfl) ?_
  refine Lq (Q_nilCheck rfl) ?_
  refine Lq (Q_fa0 rfl) ?_
  refine L_s rfl rfl (O_st1 4 rfl rfl rfl rfl rfl ?_)
  refine JL.norm ?_
  refine Ln ?_
  refine J_seq ?_
  refine J.ent (Ent.begin (τ := tKv) 5 rfl Xi.length hle) ?_
  rw [et]
  simp only [List.set_cons_succ, List.set_cons_zero]
  refine J_region ?_
  refine Lq (Q_move rfl) ?_
  refine L_o rfl rfl rfl (O_call [4,6] [0,1,2,3,5,7,8,9,10,11,12] hlf rfl rfl ?_)
  rintro _ _ ⟨rfl, rfl⟩
  refine JL.norm ?_
  refine Lq ((Q_not rfl).as (v' := .bool true) rfl) ?_
  refine Ln ?_
  refine J_condT rfl ?_
  refine J_seq ?_
  refine DH [3,0,1] [0,1,2,3,4,5,6,7,8,9,10,11,12,15,16] (.quiet 0 (.quiet 1 (.quiet 2 (.quiet 3 (.quiet 4 (.quiet 5 (.quiet 6 (.quiet 7 (.quiet 8 (.quiet 9 (.quiet 10 (.quiet 11 (.quiet 12 (.loud 13 (.loud 14 (.quiet 15 (.quiet 16 (.loud 17 .done)))))))))))))))))) Tryz.mixed ?_
  refine Sq (Ent.re [3,0,1] rfl) rfl (Q_move rfl) ?_
  refine Sq (Ent.re [3,0,1] rfl) rfl (Q_move rfl) ?_
  refine Sq (Ent.re [3,0,1] rfl) rfl (Q_nilCheck rfl) ?_
  refine Sq (Ent.re [3,0,1] rfl) rfl (Q_fa0 rfl) ?_
  refine Sq (Ent.re [3,0,1] rfl) rfl (Q_ld 0 rfl rfl rfl rfl) ?_
  refine Sq (Ent.re [3,0,1] rfl) rfl (Q_move rfl) ?_
  refine Sq (Ent.re [3,0,1] rfl) rfl (Q_nilCheck rfl) ?_
  refine Sq (Ent.re [3,0,1] rfl) rfl (Q_fa0 rfl) ?_
  refine Sq (Ent.re [3,0,1] rfl) rfl (Q_ld 1 rfl rfl rfl rfl) ?_
  refine Sq (Ent.re [3,0,1] rfl) rfl (Q_move rfl) ?_
  refine Sq (Ent.re [3,0,1] rfl) rfl (Q_add rfl rfl (by first | exact IntWalk.i64_in _ (by omega) | exact IntWalk.u8_in _ (by omega) | exact IntWalk.u32_in _ (by omega) | exact IntWalk.u64_in _ (by omega) | rfl)) ?_
  refine Sq (Ent.re [3,0,1] rfl) rfl (Q_ixAt 2 (Xi.length + 1) rfl rfl rfl rfl hpg rfl) ?_
  refine Sq (Ent.re [3,0,1] rfl) rfl (Q_ldEAt 2 (Xi.length + 1) 0 (v := .pointer (some ⟨eg.1, 0, none⟩)) rfl rfl rfl rfl hpg (by decide) (by rw [hpgg]; rfl)) ?_
  refine S_o rfl rfl rfl rfl (O_litN (τ := tNd) (m := 1) (sz := 1) [some eg.1] rfl rfl rfl rfl rfl rfl (by decide) (by decide) (fun U => ⟨_, fun _ => ⟨Ent.reN [4,1,2] rfl, Ent.refl _⟩, ?_⟩))
  refine JS.norm ?_
  refine S_o rfl rfl rfl rfl (O_call [5,0] [1,2,3,4,6,7,8,9,10,11,12,13] (ndins_ok E Ry U (pL eys) (some eg.1) 0 (Nat.zero_le _) (by rw [pL_len]; omega)) rfl rfl ?_)
  (rintro _ _ ⟨Ry2, rfl, rfl⟩; refine ⟨_, fun _ => ⟨Ent.reN [4,1,2] rfl, Ent.refl _⟩, ?_⟩)
  refine JS.norm ?_
  refine Sq (Ent.re [4,1,2] rfl) rfl (Q_nilCheck rfl) ?_
  refine Sq (Ent.re [4,1,2] rfl) rfl (Q_fa0 rfl) ?_
  refine S_s rfl rfl rfl (O_st1 4 rfl rfl rfl rfl rfl ⟨[], free_no (by kernel_rfl), ?_⟩)
  refine JS.norm ?_
  refine S_nil ?_
  refine seqQ_normal ?_
  rw [List.take_zero, List.drop_zero, List.nil_append]
  refine J_region ?_
  refine Lq (Q_move rfl) ?_
  refine Lq (Q_move rfl) ?_
  refine Lq (Q_nilCheck rfl) ?_
  refine Lq (Q_fa0 rfl) ?_
  refine Lq (Q_ld 1 rfl rfl rfl rfl) ?_
  refine Lq (Q_move rfl) ?_
  refine Lq (Q_add rfl rfl (by first | exact IntWalk.i64_in _ (by omega) | exact IntWalk.u8_in _ (by omega) | exact IntWalk.u32_in _ (by omega) | exact IntWalk.u64_in _ (by omega) | rfl)) ?_
  refine Lq (Q_slH (τ := tNd) (Xi.length + 1) (fun w h => h.rd 2 rfl) rfl rfl rfl (Nat.le_of_lt hpg) rfl) ?_
  refine Lq (Q_nilCheck rfl) ?_
  refine Lq (Q_fa0 rfl) ?_
  refine L_s rfl rfl (O_st1 1 rfl rfl rfl rfl rfl ?_)
  refine JL.norm ?_
  refine JL_nil ?_
  have hj1 : flat (d + 1) (Xi ++ [g], (es ++ [eg]).map (·.2)) = flat (d + 1) (Xi, es.map (·.2)) ++ g :: flat d eg.2 := by
   simp only [flat, List.map_append, List.map_cons, List.map_nil]
   have := ileave_join Xi [] g ((es.map (·.2)).map (flat d)) [flat d eg.2] (by simp; omega)
   rw [this]; simp [ileave]
  have hj2 : flat (d + 1) (k :: ky, (eg :: eys).map (·.2)) = flat d eg.2 ++ k :: flat (d + 1) (ky, eys.map (·.2)) := by simp [flat, ileave]
  refine retQ_normal [] _ .nil ⟨rfl, g, (Xi, es.map (·.2)), (k :: ky, (eg :: eys).map (·.2)), _, hj1, hj2, ⟨by show 3 ≤ Xi.length; omega, by show Xi.length ≤ 7; omega, by simpa using hel, fun c hc => hwx c (by simp only [List.map_append, List.mem_append]; exact .inl hc)⟩, ⟨by show 4 ≤ (k :: ky).length; simp; omega, by show (k :: ky).length ≤ 7; simp; omega, by simp; omega, fun c hc => by
   simp only [List.map_cons, List.mem_cons] at hc
   rcases hc with rfl | hc
   ·exact hwx _ (by simp)
   ·exact hwy _ hc⟩, rfl⟩ ?_
  refine (Ent.begin (τ := tNd) 2 rfl (Xi.length + 1) (Nat.le_of_lt hpg)).trans ?_
  simp only [List.set_cons_succ, List.set_cons_zero]
  rw [hpt, show (es ++ [eg]).map (ndE d) = es.map (ndE d) ++ [eg].map (ndE d) from List.map_append]
  refine (Ent.re [7,0,1,2,3,4,5,6,8,9,10,11,12] rfl).trans (Ent.stars_split.trans ?_)
  refine (Ent.re [1,7,0,2,3,4,5,6,8,9,10,11,12,13] rfl).trans (Ent.stars_join.trans ?_)
  rw [← List.map_append]
  refine (Ent.re [6,5,2,0,3,7,4,1,8,9,10,11,12] rfl).trans ?_
  refine (Ent.innerA (es := [eg] ++ eys) (K := k :: ky) (C := (eg :: eys).map (·.2)) rfl).trans ?_
  refine (Ent.re [1,2,3,4,0,5,6,7,8,9] rfl).trans ?_
  refine (Ent.innerA (es := es) (K := Xi) (C := es.map (·.2)) rfl).trans ?_
  exact (Ent.two_back2 (d := d + 1) (x := (qx, ((Xi, es.map (·.2)) : T (d + 1)))) (y := (qy, ((k :: ky, (eg :: eys).map (·.2)) : T (d + 1)))) (pL_same (d := d + 1) A B (qx, _) (qy, _) _ _))
end Go.Proofs.Bt
