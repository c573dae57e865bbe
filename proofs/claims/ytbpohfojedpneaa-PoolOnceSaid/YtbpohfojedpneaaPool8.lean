/- A pool: its clients; what is picked. -/
import Derived.Test.YtbpohfojedpneaaPool7
set_option autoImplicit false
namespace Go.Proofs
open Go.SL
abbrev kx : List Int := (List.range 16).map fun k : Nat => (k : Int)
theorem kx_mem (k : Int) : k ∈ kx ↔ 0 ≤ k ∧ k ≤ 15 := by
  unfold kx
  rw [List.mem_map]
  constructor
  · rintro ⟨j, hj, rfl⟩
    have := List.mem_range.1 hj
    omega
  · rintro ⟨h1, h2⟩
    exact ⟨k.toNat, List.mem_range.2 (by omega), by omega⟩
theorem kx_up : kx.Pairwise fun x y => x < y := by decide
def clientsL (W : Int → List Rq) : List Int := kx.filter fun k => decide (W k ≠ [])
theorem clientsL_mem (W : Int → List Rq) (k : Int) : k ∈ clientsL W ↔ (0 ≤ k ∧ k ≤ 15) ∧ W k ≠ [] := by
  unfold clientsL; rw [List.mem_filter, kx_mem, decide_eq_true_eq]
theorem clientsL_up (W : Int → List Rq) : (clientsL W).Pairwise fun x y => x < y := kx_up.sublist List.filter_sublist
theorem clientsL_len (W : Int → List Rq) : (clientsL W).length ≤ 16 := by
  have := List.length_filter_le (fun k => decide (W k ≠ [])) kx
  simpa [clientsL] using this
theorem up_nodup {l : List Int} (h : l.Pairwise fun x y => x < y) : l.Nodup := by
  rw [List.nodup_iff_pairwise_ne]
  exact h.imp fun h e => by omega
theorem sorted_uniq : ∀ {a b : List Int}, a.Perm b → a.Pairwise (· ≤ ·) → b.Pairwise (· ≤ ·) → a = b
  | [], b, h, _, _ => (List.nil_perm.1 h).symm
  | x :: a, [], h, _, _ => absurd h.symm (by intro h; have := List.nil_perm.1 h; simp at this)
  | x :: a, y :: b, h, ha, hb => by
    rw [List.pairwise_cons] at ha hb
    have hxy : x = y := by
      have h1 : x ∈ y :: b := h.mem_iff.1 (by simp)
      have h2 : y ∈ x :: a := h.mem_iff.2 (by simp)
      rcases List.mem_cons.1 h1 with h1 | h1
      · exact h1
      · rcases List.mem_cons.1 h2 with h2 | h2
        · exact h2.symm
        · have := ha.1 y h2; have := hb.1 x h1; omega
    subst hxy
    rw [sorted_uniq (List.perm_cons x |>.1 h) ha.2 hb.2]
theorem sort_sorted (a : List Int) : (sortZ a).Pairwise (· ≤ ·) := by
  have h := List.pairwise_mergeSort (le := fun x y : Int => decide (x ≤ y)) (fun a b c h1 h2 => by simp only [decide_eq_true_eq] at *; omega) (fun a b => by simp only [Bool.or_eq_true, decide_eq_true_eq]; omega) a
  exact h.imp fun h => of_decide_eq_true h
def keysV (vs : List (Int × SV)) : List Int := (vs.filter fun e => decide (0 < e.2.n)).map (·.1)
/-- What the entries' slices hold. -/
theorem Sat.starsE_n {E w : World} {L : List HProp} (h : Sat E w L) (i : Nat) {es : List En} (hi : L[i]? = some (starsE es)) : ∀ e ∈ es, e.2.1.n = e.2.2.length := by
  obtain ⟨g, ⟨fr, f1, _⟩, _⟩ := h.at hi
  intro e he
  obtain ⟨j, hj, rfl⟩ := List.getElem_of_mem he
  exact (f1 j (rqC es[j]) (by rw [List.getElem?_map, List.getElem?_eq_getElem hj]; rfl)).1
theorem PM.at' {es : List En} {m2 : List (Int × Int)} {W : Int → List Rq} {X : Int → Int} (hm : PM es m2 W X) : ∀ e ∈ es, W e.1 = e.2.2 := by
  intro e he
  rw [← hm.w, lsOf]
  have : mget es e.1 = some e.2 := by
    have hn := hm.nd1
    clear hm
    induction es with
    | nil => simp at he
    | cons y es ih =>
      rw [List.map_cons, List.nodup_cons] at hn
      rw [mget_cons]
      rcases List.mem_cons.1 he with rfl | he
      · rw [if_pos rfl]
      · rw [if_neg (fun e2 => hn.1 (by rw [e2]; exact List.mem_map_of_mem he))]
        exact ih he hn.2
  rw [this]; rfl
theorem keysV_eq {es : List En} {m2 : List (Int × Int)} {W : Int → List Rq} {X : Int → Int} {n : Nat} {vs : List (Int × SV)} (hm : PM es m2 W X) (hw : PW W X n) (hn : ∀ e ∈ es, e.2.1.n = e.2.2.length) (hp : (m1 es).Perm vs) : sortZ (keysV vs) = clientsL W := by
  have hnd : (vs.map (·.1)).Nodup := (hp.map _).nodup_iff.1 (by rw [m1_keys]; exact hm.nd1)
  have hnk : (keysV vs).Nodup := hnd.sublist (List.filter_sublist.map _)
  have hperm : (keysV vs).Perm (clientsL W) := by
    rw [List.perm_ext_iff_of_nodup hnk (up_nodup (clientsL_up W))]
    intro k
    rw [clientsL_mem]
    unfold keysV
    rw [List.mem_map]
    constructor
    · rintro ⟨x, hx, rfl⟩
      obtain ⟨hx1, hx2⟩ := List.mem_filter.1 hx
      have hx3 : x ∈ m1 es := hp.mem_iff.2 hx1
      obtain ⟨e, he, rfl⟩ := List.mem_map.1 hx3
      have h1 := hn e he
      have h2 := hm.at' e he
      have h3 : W e.1 ≠ [] := by
        intro h4
        rw [h4] at h2
        rw [← h2] at h1
        simp at hx2 h1
        omega
      refine ⟨?_, h3⟩
      obtain ⟨r, hr⟩ := List.exists_mem_of_ne_nil _ h3
      have := hw.own _ r hr
      have h5 := may_parts this.2
      rw [this.1] at h5
      exact ⟨h5.1, h5.2.1⟩
    · rintro ⟨hk, hne⟩
      have : (mget es k).isSome = true := by
        rw [← hm.w, lsOf] at hne
        cases hg : mget es k with
        | none => rw [hg] at hne; simp at hne
        | some v => rfl
      have hk2 := (mget_mem es k).2 this
      obtain ⟨e, he, rfl⟩ := List.mem_map.1 hk2
      refine ⟨(e.1, e.2.1), List.mem_filter.2 ⟨hp.mem_iff.1 (List.mem_map.2 ⟨e, he, rfl⟩), ?_⟩, rfl⟩
      have h1 := hn e he
      have h2 := hm.at' e he
      rw [h2] at hne
      have := List.length_pos_iff.2 hne
      simp; omega
  refine sorted_uniq ((List.mergeSort_perm _ _).trans hperm) (sort_sorted _) ?_
  exact (clientsL_up W).imp fun h => by omega
attribute [local irreducible] J JL QOp JOp seqQ blockQ loopQ retQ slc cel hex star pur stars Does RV Ent pAt scopeQ
attribute [local irreducible] mpC mpX starsE poolA
theorem clients_ok (E : World) (p n : Nat) (W : Int → List Rq) (X : Int → Int) (hw : PW W X n) : Does Try.prog E 26 [.pointer (some ⟨p, 0, none⟩)] [poolA p W X n] fun v L => ∃ (C : SV) (R : Nat), v = .tuple #[C.v, .int .i64 (R : Int)] ∧ (∀ k, (W k).length ≤ R) ∧ R ≤ 4 ∧ L = [poolA p W X n, slc tZ true C (clientsL W)] := by
  refine Does.of Try.func26 rfl Try.ntmps26 rfl rfl fun F => ?_
  refine J.norm ?_
  refine J_seq ?_
  refine J_region ?_
  refine L_q (Q_assign rfl) rfl rfl rfl ?_
  refine L_q (Q_assign rfl) rfl rfl rfl ?_
  refine JL_nil ?_
  refine seqQ_normal ?_
  refine J_seq ?_
  refine J_region ?_
  refine L_q (Q_assign rfl) rfl rfl rfl ?_
  refine JL_nil ?_
  refine seqQ_normal ?_
  refine J_seq ?_
  refine J_region ?_
  refine L_q (Q_assign rfl) rfl rfl rfl ?_
  refine JL_nil ?_
  refine seqQ_normal ?_
  refine J_seq ?_
  refine J_seq ?_
  refine J.poolA fun r1 r2 es m2 hm => ?_
  refine J.have (p := ∀ e ∈ es, e.2.1.n = e.2.2.length) (fun w hs => Sat.starsE_n hs 3 rfl) fun hn => ?_
  have hn4 : ∀ e ∈ m1 es, e.2.n ≤ 4 := fun e he => by
    obtain ⟨x, hx, rfl⟩ := List.mem_map.1 he
    have h1 := hn x hx
    have h2 := hm.at' x hx
    have h3 := hw.len x.1
    rw [h2] at h3
    simp only; omega
  have hesl : (m1 es).length = es.length := by simp [m1]
  refine J_region ?_
  refine L_q (Q_move rfl) rfl rfl rfl ?_
  refine L_q (Q_nilCheck rfl) rfl rfl rfl ?_
  refine L_q (Q_fa0 rfl) rfl rfl rfl ?_
  refine L_q (Q_ld 0 rfl rfl rfl rfl) rfl rfl rfl ?_
  refine L_o rfl rfl rfl (O_mrange (M := mWt) 1 rfl rfl (fun it => ?_))
  refine JL.norm ?_
  refine JL_nil ?_
  refine seqQ_normal ?_
  refine J_block ?_
  refine J.ent (Ent.mk fun _ _ h => (h.lay_nil tZ true : Sat _ _ (slc tZ true SV.nil [] :: _))) ?_
  refine J_loop (fun i : List (Int × SV) × List (Int × SV) × SV × Nat => (m1 es).Perm (i.2.1 ++ i.1) ∧ i.2.2.2 ≤ 4 ∧ (∀ e ∈ i.2.1, e.2.n ≤ i.2.2.2) ∧ True)
    (fun i => [(4, i.2.2.1.v), (5, .int .i64 (i.2.2.2 : Int)), (12, .pointer (some ⟨it, 0, none⟩))])
    (fun i => [slc tZ true i.2.2.1 (keysV i.2.1), poolC p r1 r2 n, mpX mWt r1 it (m1 es) i.1 i.2.1, mpC mNx r2 m2, starsE es, F]) (fun i => i.1.length) (m1 es, [], SV.nil, 0) ⟨List.Perm.refl _, by simp, by simp, trivial⟩ ⟨rfl, rfl, rfl, trivial⟩ (Ent.refl _) ?_
  rintro ⟨td, vs, C, R⟩ ⟨hp, hR, hv, _⟩
  dsimp only at hp hR hv ⊢
  have hkv : (keysV vs).length ≤ 16 := by
    have h0 := keysV_eq hm hw hn hp
    have h1 : (sortZ (keysV (vs ++ td))).length = (keysV (vs ++ td)).length := List.length_mergeSort _
    rw [h0] at h1
    have h2 := clientsL_len W
    have h3 : keysV (vs ++ td) = keysV vs ++ keysV td := by simp [keysV]
    rw [h3, List.length_append] at h1
    omega
  cases td with
  | nil =>
    rw [List.append_nil] at hp
    have hke := keysV_eq hm hw hn hp
    refine J_seq ?_
    refine J_region ?_
    refine L_o rfl rfl rfl (O_mnext (M := mWt) 2 rfl rfl (fun _ => ?_) (fun a y b ht => absurd ht (by simp)))
    refine JL.norm ?_
    refine L_q (Q_extract (v := .bool false) rfl rfl) rfl rfl rfl ?_
    refine JL_nil ?_
    refine seqQ_normal ?_
    refine J_seq ?_
    refine J_condF rfl ?_
    refine J_exit ?_
    refine seqQ_exit ?_
    refine loopQ_exit ?_
    refine blockQ_hit ?_
    refine seqQ_normal ?_
    refine J_seq ?_
    have hso := sortz_ok E C (keysV vs) (by omega)
    rw [hke] at hso
    refine J_region ?_
    refine L_q (Q_move rfl) rfl rfl rfl ?_
    refine L_o rfl rfl rfl (O_call [0] [1,2,3,4,5] hso rfl rfl ?_)
    rintro _ _ ⟨rfl, rfl⟩
    refine JL.norm ?_
    refine JL_nil ?_
    refine seqQ_normal ?_
    refine J_seq ?_
    refine J_region ?_
    refine L_q (Q_move rfl) rfl rfl rfl ?_
    refine L_q (Q_move rfl) rfl rfl rfl ?_
    refine L_q (Q_assign rfl) rfl rfl rfl ?_
    refine L_q (Q_assign rfl) rfl rfl rfl ?_
    refine JL_nil ?_
    refine seqQ_normal ?_
    refine J_ret ?_
    refine retQ_ret _ [poolA p W X n, slc tZ true C (clientsL W)] (.cons (RV_tmp rfl) (.cons (RV_tmp rfl) .nil)) ⟨C, R, rfl, fun k => ?_, hR, rfl⟩ ?_
    · by_cases hne : W k = []
      · rw [hne]; simp
      · have hs : (mget es k).isSome = true := by
          rw [← hm.w, lsOf] at hne
          cases hg : mget es k with
          | none => rw [hg] at hne; simp at hne
          | some v => rfl
        obtain ⟨e, he, rfl⟩ := List.mem_map.1 ((mget_mem es k).2 hs)
        have h1 := hv (e.1, e.2.1) (hp.mem_iff.1 (List.mem_map.2 ⟨e, he, rfl⟩))
        rw [hm.at' e he, ← hn e he]
        exact h1
    · exact (show Ent _ [slc tZ true C (clientsL W), poolC p r1 r2 n, mpC mWt r1 (m1 es), mpC mNx r2 m2, starsE es, F] from Ent.mpEnd (M := mWt) 2 rfl).trans ((Ent.re [1, 2, 3, 4, 0, 5] rfl).trans (Ent.poolA_in hm))
  | cons hd tl =>
    refine J_seq ?_
    refine J_region ?_
    refine L_o rfl rfl rfl (O_mnext (M := mWt) 2 rfl rfl (fun ht => absurd ht (by simp)) (fun a y b ht => ?_))
    refine JL.norm ?_
    refine L_q (Q_extract (v := .bool true) rfl rfl) rfl rfl rfl ?_
    refine JL_nil ?_
    refine seqQ_normal ?_
    refine J_seq ?_
    refine J_condT rfl ?_
    refine J_skip ?_
    refine seqQ_normal ?_
    refine J_block ?_
    refine J_seq ?_
    rw [ht] at hp
    have hy4 : y.2.n ≤ 4 := hn4 y (hp.mem_iff.2 (by simp))
    have hp2 : (m1 es).Perm (vs ++ [y] ++ (a ++ b)) := by
      refine hp.trans ?_
      rw [List.append_assoc]
      refine List.Perm.append_left vs ?_
      exact List.perm_middle
    have htl : (a ++ b).length < (hd :: tl).length := by rw [ht]; simp
    refine J_region ?_
    refine L_o rfl rfl rfl (O_mentry (M := mWt) 2 rfl rfl ?_)
    refine JL.norm ?_
    refine L_q (Q_extract (v := .int .i64 y.1) rfl rfl) rfl rfl rfl ?_
    refine L_q (Q_extract (v := y.2.v) rfl rfl) rfl rfl rfl ?_
    refine L_q (Q_assign rfl) rfl rfl rfl ?_
    refine L_q (Q_assign rfl) rfl rfl rfl ?_
    refine JL_nil ?_
    refine seqQ_normal ?_
    refine J_seq ?_
    by_cases hpos : 0 < y.2.n
    · have hk2 : keysV (vs ++ [y]) = keysV vs ++ [y.1] := by simp [keysV, List.filter_append, List.filter_cons, hpos]
      refine J_region ?_
      refine L_q (Q_move rfl) rfl rfl rfl ?_
      refine L_q (Q_lenV (S := y.2) rfl) rfl rfl rfl ?_
      refine L_q ((Q_gtr rfl rfl).as (v' := .bool true) (congrArg Value.bool (decide_eq_true (by omega)))) rfl rfl rfl ?_
      refine JL_nil ?_
      refine seqQ_normal ?_
      refine J_condT rfl ?_
      refine J_seq ?_
      refine J_region ?_
      refine L_q (Q_move rfl) rfl rfl rfl ?_
      refine L_q (Q_move rfl) rfl rfl rfl ?_
      refine L_o rfl rfl rfl (O_litP (τ := tZ) (m := 1) (sz := 1) [y.1] rfl rfl rfl rfl rfl rfl (by decide) (fun T => ?_))
      refine JL.norm ?_
      refine L_o rfl rfl rfl (O_app (τ := tZ) 1 rfl (fun w h => h.rd 0 rfl) rfl rfl rfl rfl (by simp only [List.length_singleton]; omega) (by decide) (fun C2 => ?_))
      refine JL.norm ?_
      refine L_q (Q_assign rfl) rfl rfl rfl ?_
      refine JL_nil ?_
      refine seqQ_normal ?_
      refine J_region ?_
      refine L_q (Q_move rfl) rfl rfl rfl ?_
      refine L_q (Q_move rfl) rfl rfl rfl ?_
      refine L_q (Q_lenV (S := y.2) rfl) rfl rfl rfl ?_
      refine L_q ((Q_max2 rfl rfl).as (v' := .int .i64 ((max R y.2.n : Nat) : Int)) (congrArg (Value.int .i64) (by omega))) rfl rfl rfl ?_
      refine L_q (Q_assign rfl) rfl rfl rfl ?_
      refine JL_nil ?_
      refine blockQ_normal ?_
      refine loopQ_normal (a ++ b, vs ++ [y], C2, max R y.2.n) ⟨hp2, by simp only; omega, fun e he => ?_, trivial⟩ htl ⟨rfl, rfl, rfl, trivial⟩ (by simp only; rw [hk2]; exact Ent.re [1, 2, 3, 4, 5, 6] rfl)
      simp only
      rcases List.mem_append.1 he with he | he
      · have := hv e he; omega
      · rw [List.mem_singleton] at he; rw [he]; omega
    · have hk2 : keysV (vs ++ [y]) = keysV vs := by simp [keysV, List.filter_append, List.filter_cons, hpos]
      refine J_region ?_
      refine L_q (Q_move rfl) rfl rfl rfl ?_
      refine L_q (Q_lenV (S := y.2) rfl) rfl rfl rfl ?_
      refine L_q ((Q_gtr rfl rfl).as (v' := .bool false) (congrArg Value.bool (decide_eq_false (by omega)))) rfl rfl rfl ?_
      refine JL_nil ?_
      refine seqQ_normal ?_
      refine J_condF rfl ?_
      refine J_skip ?_
      refine blockQ_normal ?_
      refine loopQ_normal (a ++ b, vs ++ [y], C, R) ⟨hp2, hR, fun e he => ?_, trivial⟩ htl ⟨rfl, rfl, rfl, trivial⟩ (by simp only; rw [hk2]; exact Ent.refl _)
      simp only
      rcases List.mem_append.1 he with he | he
      · exact hv e he
      · rw [List.mem_singleton] at he; rw [he]; omega
end Go.Proofs
