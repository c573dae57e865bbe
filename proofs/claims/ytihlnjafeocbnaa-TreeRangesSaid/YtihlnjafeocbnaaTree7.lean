/- A child made to have more than the fewest keys; the first or last pair below a node. -/
import Derived.Test.YtihlnjafeocbnaaTree6b
import Derived.Test.YtihlnjafeocbnaaSl22
set_option autoImplicit false
namespace Go.SL
theorem J.mid {P : Program} {E : World} {n : Nat} {c d : Code} {Q : Post} {ρ : Env} {L : List HProp} (M : Env → List HProp → Prop) (h : J P E n c (fun e ρ L => e = .normal ∧ M ρ L) ρ L) (hq : ∀ ρ L, M ρ L → J P E n d Q ρ L) : J P E n c (seqQ P E n d Q) ρ L := by
  refine h.mono fun e ρ L he => ?_
  obtain ⟨rfl, hM⟩ := he
  exact hq ρ L hM
end Go.SL
namespace Go.Proofs
open Go.SL
theorem preI_snoc (k : Kv) (f : List Kv) : ∀ (K : List Kv) (F : List (List Kv)), K.length = F.length → preI (K ++ [k]) (F ++ [f]) = preI K F ++ f ++ [k]
  | [], [], _ => by simp [preI]
  | [], _ :: _, h => by simp at h
  | _ :: _, [], h => by simp at h
  | a :: K, g :: F, h => by
    simp only [List.cons_append, preI]
    rw [preI_snoc k f K F (by simpa using h)]
    simp
theorem preF_snoc {d : Nat} (k : Kv) (c : T d) (K : List Kv) (A : List (T d)) (h : K.length = A.length) : preF d (K ++ [k]) (A ++ [c]) = preF d K A ++ flat d c ++ [k] := by
  unfold preF
  rw [List.map_append]
  exact preI_snoc k (flat d c) K (A.map (flat d)) (by simpa using h)
structure FillP {d : Nat} (K1 K2 : List Kv) (A : List (Nat × T d)) (e : Nat × T d) (B : List (Nat × T d)) (key : Ky) (K1' K2' : List Kv) (A' : List (Nat × T d)) (e' : Nat × T d) (B' : List (Nat × T d)) : Prop where
  hA : K1'.length = A'.length
  hB : K2'.length = B'.length
  hw : ∀ c ∈ A' ++ B', wf 3 d c.2
  he : wf 4 d e'.2
  low : K1.length + K2.length ≤ K1'.length + K2'.length + 1
  top : K1'.length + K2'.length ≤ K1.length + K2.length
  fl : flat (d + 1) (K1' ++ K2', A'.map (·.2) ++ e'.2 :: B'.map (·.2)) = flat (d + 1) (K1 ++ K2, A.map (·.2) ++ e.2 :: B.map (·.2))
  b : Bel K1' key
  a : Abv K2' key
section
variable {d : Nat} {K1 K2 : List Kv} {A B : List (Nat × T d)} {e x : Nat × T d} {k k' : Kv} {key : Ky} {cx cy : T d} {mid : List Kv}
theorem fill_left (hA : K1.length = A.length) (hB : K2.length = B.length) (hw : ∀ c ∈ (A ++ [x]) ++ e :: B, wf 3 d c.2) (hu : Up (flat (d + 1) ((K1 ++ [k]) ++ K2, (A ++ [x]).map (·.2) ++ e.2 :: B.map (·.2)))) (h1 : Bel (K1 ++ [k]) key) (h2 : Abv K2 key)
    (f1 : flat d x.2 = flat d cx ++ k' :: mid) (f2 : flat d cy = mid ++ k :: flat d e.2) (w1 : wf 3 d cx) (w2 : wf 4 d cy) : FillP (K1 ++ [k]) K2 (A ++ [x]) e B key (K1 ++ [k']) K2 (A ++ [(x.1, cx)]) (e.1, cy) B := by
  have hl : (K1 ++ [k]).length = ((A ++ [x]).map (·.2)).length := by simp [hA]
  have hl' : (K1 ++ [k']).length = ((A ++ [(x.1, cx)]).map (·.2)).length := by simp [hA]
  have e1 := flat_at (K1 ++ [k]) K2 ((A ++ [x]).map (·.2)) (B.map (·.2)) e.2 hl
  have e2 := flat_at (K1 ++ [k']) K2 ((A ++ [(x.1, cx)]).map (·.2)) (B.map (·.2)) cy hl'
  rw [List.map_append, List.map_cons, List.map_nil] at e1 e2
  rw [preF_snoc _ _ _ _ (by simpa using hA)] at e1 e2
  have hk : kl k'.key k.key = true := by
    rw [List.map_append, List.map_cons, List.map_nil, e1] at hu
    have h3 := (up_app (up_app hu).1).1
    obtain ⟨hb, _⟩ := up_mid (Y := []) h3
    exact hb k' (by simp [f1])
  refine ⟨by simp [hA], hB, fun c hc => ?_, w2, by simp, by simp, ?_, fun z hz => ?_, h2⟩
  · simp only [List.append_assoc, List.mem_append, List.mem_singleton] at hc hw
    rcases hc with hc | rfl | hc
    · exact hw c (.inl hc)
    · exact w1
    · exact hw c (.inr (.inr (List.mem_cons_of_mem _ hc)))
  · simp only [List.map_append, List.map_cons, List.map_nil]
    rw [e1, e2, f1, f2]; simp
  · rcases List.mem_append.1 hz with hz | hz
    · exact h1 z (by simp [hz])
    · rw [List.mem_singleton] at hz; subst hz
      exact kl_trans hk (h1 k (by simp))
theorem fill_right (hA : K1.length = A.length) (hB : K2.length = B.length) (hw : ∀ c ∈ A ++ e :: x :: B, wf 3 d c.2) (hu : Up (flat (d + 1) (K1 ++ k :: K2, A.map (·.2) ++ e.2 :: (x :: B).map (·.2)))) (h1 : Bel K1 key) (h2 : Abv (k :: K2) key)
    (f1 : flat d x.2 = mid ++ k' :: flat d cy) (f2 : flat d cx = flat d e.2 ++ k :: mid) (w1 : wf 4 d cx) (w2 : wf 3 d cy) : FillP K1 (k :: K2) A e (x :: B) key K1 (k' :: K2) A (e.1, cx) ((x.1, cy) :: B) := by
  have hl : K1.length = (A.map (·.2)).length := by simp [hA]
  have e1 := flat_2 K1 K2 k (A.map (·.2)) (B.map (·.2)) e.2 x.2 hl
  have e2 := flat_2 K1 K2 k' (A.map (·.2)) (B.map (·.2)) cx cy hl
  have hk : kl k.key k'.key = true := by
    rw [List.map_cons, e1] at hu
    have h3 := (up_app (up_app hu).1).2
    obtain ⟨_, hb, _⟩ := up_mid h3
    exact hb k' (by simp [f1])
  refine ⟨hA, by simp [hB], fun c hc => ?_, w1, by simp, by simp, ?_, h1, fun z hz => ?_⟩
  · simp only [List.mem_append, List.mem_cons] at hc hw
    rcases hc with hc | rfl | hc
    · exact hw c (.inl hc)
    · exact w2
    · exact hw c (.inr (.inr (.inr hc)))
  · simp only [List.map_cons]
    rw [e1, e2, f1, f2]; simp
  · rcases List.mem_cons.1 hz with rfl | hz
    · exact kl_trans (h2 k (by simp)) hk
    · exact h2 z (by simp [hz])
theorem fill_mergeR {cm : T d} (hA : K1.length = A.length) (hB : K2.length = B.length) (hw : ∀ c ∈ A ++ e :: x :: B, wf 3 d c.2) (h1 : Bel K1 key) (h2 : Abv (k :: K2) key) (f1 : flat d cm = flat d e.2 ++ k :: flat d x.2) (w1 : wf 4 d cm) : FillP K1 (k :: K2) A e (x :: B) key K1 K2 A (e.1, cm) B := by
  have hl : K1.length = (A.map (·.2)).length := by simp [hA]
  have e1 := flat_2 K1 K2 k (A.map (·.2)) (B.map (·.2)) e.2 x.2 hl
  have e2 := flat_at K1 K2 (A.map (·.2)) (B.map (·.2)) cm hl
  refine ⟨hA, hB, fun c hc => ?_, w1, by simp only [List.length_append, List.length_cons, List.length_nil]; omega, by simp only [List.length_append, List.length_cons, List.length_nil]; omega, ?_, h1, fun z hz => h2 z (by simp [hz])⟩
  · simp only [List.mem_append, List.mem_cons] at hc hw
    rcases hc with hc | hc
    · exact hw c (.inl hc)
    · exact hw c (.inr (.inr (.inr hc)))
  · simp only [List.map_cons]
    rw [e1, e2, f1]
theorem fill_mergeL {cm : T d} (hA : K1.length = A.length) (hB : K2.length = B.length) (hw : ∀ c ∈ (A ++ [x]) ++ e :: B, wf 3 d c.2) (h1 : Bel (K1 ++ [k]) key) (h2 : Abv K2 key) (f1 : flat d cm = flat d x.2 ++ k :: flat d e.2) (w1 : wf 4 d cm) : FillP (K1 ++ [k]) K2 (A ++ [x]) e B key K1 K2 A (x.1, cm) B := by
  have hl : K1.length = (A.map (·.2)).length := by simp [hA]
  have e1 := flat_2 K1 K2 k (A.map (·.2)) (B.map (·.2)) x.2 e.2 hl
  have e2 := flat_at K1 K2 (A.map (·.2)) (B.map (·.2)) cm hl
  refine ⟨hA, hB, fun c hc => ?_, w1, by simp only [List.length_append, List.length_cons, List.length_nil]; omega, by simp only [List.length_append, List.length_cons, List.length_nil]; omega, ?_, fun z hz => h1 z (by simp [hz]), h2⟩
  · simp only [List.append_assoc, List.mem_append, List.mem_singleton] at hc hw
    rcases hc with hc | hc
    · exact hw c (.inl hc)
    · exact hw c (.inr (.inr (List.mem_cons_of_mem _ hc)))
  · simp only [List.map_append, List.map_cons, List.map_nil, List.append_assoc, List.singleton_append]
    rw [e1, e2, f1]
end
attribute [local irreducible] J JL QOp JOp seqQ blockQ loopQ retQ slc cel hex star pur stars Does RV Ent pAt scopeQ
attribute [local irreducible] nodeA nodeX treeA
theorem fill_ok (E : World) (d p : Nat) (S R : SV) (K1 K2 : List Kv) (A B : List (Nat × T d)) (e : Nat × T d) (key : Ky) (hA : K1.length = A.length) (hB : K2.length = B.length) (hw : ∀ c ∈ A ++ e :: B, wf 3 d c.2) (hn : 1 ≤ K1.length + K2.length) (h7 : K1.length + K2.length ≤ 7) (hu : Up (flat (d + 1) (K1 ++ K2, A.map (·.2) ++ e.2 :: B.map (·.2)))) (hk1 : Bel K1 key) (hk2 : Abv K2 key) :
    Does Try.prog E 39 [.pointer (some ⟨p, 0, none⟩), .int .i64 (A.length : Int)] [ndC p S R, slc tKv true S (K1 ++ K2), slc tNd true R (pL (A ++ e :: B)), stars ((A ++ e :: B).map (ndE d))]
    fun v L => ∃ (S' R' : SV) (K1' K2' : List Kv) (A' : List (Nat × T d)) (e' : Nat × T d) (B' : List (Nat × T d)), FillP K1 K2 A e B key K1' K2' A' e' B' ∧ v = .pointer (some ⟨e'.1, 0, none⟩) ∧ L = [ndC p S' R', slc tKv true S' (K1' ++ K2'), slc tNd true R' (pL (A' ++ e' :: B')), stars ((A' ++ e' :: B').map (ndE d))] := by
  have hwe : wf 3 d e.2 := hw e (by simp)
  have hPl : A.length < (pL (A ++ e :: B)).length := by rw [pL_len]; simp
  have hPg : (pL (A ++ e :: B))[A.length] = some e.1 := mid_get _ A B e hPl
  have hw3 := (wf_ks hwe).1
  have hw7 := (wf_ks hwe).2
  refine Does.of Try.func39 rfl Try.ntmps39 rfl rfl fun F => ?_
  refine J.norm ?_
  refine J_seq ?_
  refine J_region ?_
  refine L_q (Q_assign rfl) rfl rfl rfl ?_
  refine JL_nil ?_
  refine seqQ_normal ?_
  refine J_seq ?_
  refine J_block ?_
  refine J_seq ?_
  refine J.cut (fun x ρ' L' => x = .normal ∧ ∃ (S' R' : SV) (K1' K2' : List Kv) (A' : List (Nat × T d)) (e' : Nat × T d) (B' : List (Nat × T d)), FillP K1 K2 A e B key K1' K2' A' e' B' ∧ envSub [(0, .pointer (some ⟨p, 0, none⟩)), (1, .int .i64 (A'.length : Int))] ρ' ∧ Ent L' [ndC p S' R', slc tKv true S' (K1' ++ K2'), slc tNd true R' (pL (A' ++ e' :: B')), stars ((A' ++ e' :: B').map (ndE d)), F]) ?_ ?_
  · refine J.ent ((Ent.re [3, 0, 1, 2, 4] rfl).trans (Ent.mid_out (ndE d) A e B)) ?_
    refine J.peek fun Sc Rc X hX => ?_
    have hclose : Ent (ndC e.1 Sc Rc :: slc tKv true Sc (tks d e.2) :: X :: stars ((A ++ B).map (ndE d)) :: ndC p S R :: slc tKv true S (K1 ++ K2) :: slc tNd true R (pL (A ++ e :: B)) :: F :: []) [ndC p S R, slc tKv true S (K1 ++ K2), slc tNd true R (pL (A ++ e :: B)), stars ((A ++ e :: B).map (ndE d)), F] := ((hX _).trans (Ent.mid_in (ndE d) A e B)).trans (Ent.re [1, 2, 3, 0, 4] rfl)
    by_cases c1 : 3 < (tks d e.2).length
    · skip
      refine J_region ?_
      refine L_q (Q_move rfl) rfl rfl rfl ?_
      refine L_q (Q_nilCheck rfl) rfl rfl rfl ?_
      refine L_q (Q_fa0 rfl) rfl rfl rfl ?_
      refine L_q (Q_ld 4 rfl rfl rfl rfl) rfl rfl rfl ?_
      refine L_q (Q_move rfl) rfl rfl rfl ?_
      refine L_q (Q_ixAt 6 A.length rfl rfl rfl rfl hPl rfl) rfl rfl rfl ?_
      refine L_q (Q_ldEAt 6 A.length 0 (v := .pointer (some ⟨e.1, 0, none⟩)) rfl rfl rfl rfl hPl (by decide) (by rw [hPg]; rfl)) rfl rfl rfl ?_
      refine L_q (Q_nilCheck rfl) rfl rfl rfl ?_
      refine L_q (Q_fa0 rfl) rfl rfl rfl ?_
      refine L_q (Q_ld 0 rfl rfl rfl rfl) rfl rfl rfl ?_
      refine L_q (Q_lenAt 1 rfl rfl) rfl rfl rfl ?_
      refine L_q ((Q_gtr rfl rfl).as (v' := .bool true) (congrArg Value.bool (decide_eq_true (by omega)))) rfl rfl rfl ?_
      refine L_q (Q_assign rfl) rfl rfl rfl ?_
      refine JL_nil ?_
      refine seqQ_normal ?_
      refine J_condT rfl ?_
      refine J_skip ?_
      refine blockQ_normal ?_
      exact ⟨rfl, S, R, K1, K2, A, e, B, ⟨hA, hB, fun c hc => hw c (by simp only [List.mem_append, List.mem_cons] at hc ⊢; exact hc.elim .inl (fun h => .inr (.inr h))), wf_mk hwe c1, by omega, Nat.le_refl _, rfl, hk1, hk2⟩, ⟨rfl, rfl, trivial⟩, hclose⟩
    · have h3 : (tks d e.2).length = 3 := by omega
      refine J_region ?_
      refine L_q (Q_move rfl) rfl rfl rfl ?_
      refine L_q (Q_nilCheck rfl) rfl rfl rfl ?_
      refine L_q (Q_fa0 rfl) rfl rfl rfl ?_
      refine L_q (Q_ld 4 rfl rfl rfl rfl) rfl rfl rfl ?_
      refine L_q (Q_move rfl) rfl rfl rfl ?_
      refine L_q (Q_ixAt 6 A.length rfl rfl rfl rfl hPl rfl) rfl rfl rfl ?_
      refine L_q (Q_ldEAt 6 A.length 0 (v := .pointer (some ⟨e.1, 0, none⟩)) rfl rfl rfl rfl hPl (by decide) (by rw [hPg]; rfl)) rfl rfl rfl ?_
      refine L_q (Q_nilCheck rfl) rfl rfl rfl ?_
      refine L_q (Q_fa0 rfl) rfl rfl rfl ?_
      refine L_q (Q_ld 0 rfl rfl rfl rfl) rfl rfl rfl ?_
      refine L_q (Q_lenAt 1 rfl rfl) rfl rfl rfl ?_
      refine L_q ((Q_gtr rfl rfl).as (v' := .bool false) (congrArg Value.bool (decide_eq_false (by omega)))) rfl rfl rfl ?_
      refine L_q (Q_assign rfl) rfl rfl rfl ?_
      refine JL_nil ?_
      refine seqQ_normal ?_
      refine J_condF rfl ?_
      refine J_seq ?_
      refine J.ent hclose ?_
      refine J.mid (fun ρ' L' => ∃ b : Bool, (b = true → ∃ A2 x, A = A2 ++ [x] ∧ 3 < (tks d x.2).length) ∧ (b = false → ∀ A2 x, A = A2 ++ [x] → (tks d x.2).length = 3) ∧ envSub [(0, .pointer (some ⟨p, 0, none⟩)), (1, .int .i64 (A.length : Int)), (24, .bool b)] ρ' ∧ Ent L' [ndC p S R, slc tKv true S (K1 ++ K2), slc tNd true R (pL (A ++ e :: B)), stars ((A ++ e :: B).map (ndE d)), F]) ?_ ?_
      · rcases Nat.eq_zero_or_pos A.length with c2 | c2
        · skip
          refine J_region ?_
          refine L_q (Q_move rfl) rfl rfl rfl ?_
          refine L_q ((Q_gtr rfl rfl).as (v' := .bool false) (congrArg Value.bool (decide_eq_false (by omega)))) rfl rfl rfl ?_
          refine L_q (Q_move rfl) rfl rfl rfl ?_
          refine L_n rfl rfl rfl ?_
          refine L_n rfl rfl rfl ?_
          refine L_n rfl rfl rfl ?_
          refine L_n rfl rfl rfl ?_
          refine L_n rfl rfl rfl ?_
          refine L_n rfl rfl rfl ?_
          refine L_n rfl rfl rfl ?_
          refine L_n rfl rfl rfl ?_
          refine L_n rfl rfl rfl ?_
          refine L_n rfl rfl rfl ?_
          refine L_n rfl rfl rfl ?_
          refine L_n rfl rfl rfl ?_
          refine L_n rfl rfl rfl ?_
          refine L_q (Q_pickF rfl rfl) rfl rfl rfl ?_
          refine L_q (Q_assign rfl) rfl rfl rfl ?_
          refine JL_nil ?_
          exact ⟨rfl, false, fun h => Bool.noConfusion h, fun _ A2 x h => by rw [h] at c2; simp at c2, ⟨rfl, rfl, rfl, trivial⟩, Ent.refl _⟩
        · obtain ⟨A2, x, rfl⟩ := snoc_of c2
          have hwx : wf 3 d x.2 := hw x (by simp)
          have hx3 := (wf_ks hwx).1
          have hxl : (A2 ++ [x]).length = A2.length + 1 := by simp
          have hPx : A2.length < (pL ((A2 ++ [x]) ++ e :: B)).length := by rw [pL_len]; simp only [List.length_append, List.length_cons, List.length_nil]; omega
          have hPxg : (pL ((A2 ++ [x]) ++ e :: B))[A2.length] = some x.1 := by
            have h := mid_get (fun x : Nat × T d => some x.1) A2 (e :: B) x (by simp)
            simp only [pL, List.append_assoc, List.singleton_append]; exact h
          rw [show stars (((A2 ++ [x]) ++ e :: B).map (ndE d)) = stars ((A2 ++ x :: (e :: B)).map (ndE d)) by rw [List.append_assoc]; rfl]
          refine J.ent ((Ent.re [3, 0, 1, 2, 4] rfl).trans (Ent.mid_out (ndE d) A2 x (e :: B))) ?_
          refine J.peek fun Sd Rd Z hZ => ?_
          have hcl2 : Ent (ndC x.1 Sd Rd :: slc tKv true Sd (tks d x.2) :: Z :: stars ((A2 ++ e :: B).map (ndE d)) :: ndC p S R :: slc tKv true S (K1 ++ K2) :: slc tNd true R (pL ((A2 ++ [x]) ++ e :: B)) :: F :: []) [ndC p S R, slc tKv true S (K1 ++ K2), slc tNd true R (pL ((A2 ++ [x]) ++ e :: B)), stars ((A2 ++ x :: (e :: B)).map (ndE d)), F] := ((hZ _).trans (Ent.mid_in (ndE d) A2 x (e :: B))).trans (Ent.re [1, 2, 3, 0, 4] rfl)
          by_cases hb : 3 < (tks d x.2).length
          · skip
            refine J_region ?_
            refine L_q (Q_move rfl) rfl rfl rfl ?_
            refine L_q ((Q_gtr rfl rfl).as (v' := .bool true) (congrArg Value.bool (decide_eq_true (by omega)))) rfl rfl rfl ?_
            refine L_q (Q_move rfl) rfl rfl rfl ?_
            refine L_q (Q_move rfl) rfl rfl rfl ?_
            refine L_q (Q_nilCheck rfl) rfl rfl rfl ?_
            refine L_q (Q_fa0 rfl) rfl rfl rfl ?_
            refine L_q (Q_ld 4 rfl rfl rfl rfl) rfl rfl rfl ?_
            refine L_q (Q_move rfl) rfl rfl rfl ?_
            refine L_q (Q_sub (r := (A2.length : Int)) rfl rfl (by rw [show ((A2 ++ [x]).length : Int) - 1 = (A2.length : Int) by omega]; exact IntWalk.i64_in _ (by omega))) rfl rfl rfl ?_
            refine L_q (Q_ixAt 6 A2.length rfl rfl rfl rfl hPx rfl) rfl rfl rfl ?_
            refine L_q (Q_ldEAt 6 A2.length 0 (v := .pointer (some ⟨x.1, 0, none⟩)) rfl rfl rfl rfl hPx (by decide) (by rw [hPxg]; rfl)) rfl rfl rfl ?_
            refine L_q (Q_nilCheck rfl) rfl rfl rfl ?_
            refine L_q (Q_fa0 rfl) rfl rfl rfl ?_
            refine L_q (Q_ld 0 rfl rfl rfl rfl) rfl rfl rfl ?_
            refine L_q (Q_lenAt 1 rfl rfl) rfl rfl rfl ?_
            refine L_q ((Q_gtr rfl rfl).as (v' := .bool true) (congrArg Value.bool (decide_eq_true (by omega)))) rfl rfl rfl ?_
            refine L_q (Q_pickT rfl rfl) rfl rfl rfl ?_
            refine L_q (Q_assign rfl) rfl rfl rfl ?_
            refine JL_nil ?_
            exact ⟨rfl, true, fun _ => ⟨A2, x, rfl, hb⟩, fun h => Bool.noConfusion h, ⟨rfl, rfl, rfl, trivial⟩, hcl2⟩
          · skip
            refine J_region ?_
            refine L_q (Q_move rfl) rfl rfl rfl ?_
            refine L_q ((Q_gtr rfl rfl).as (v' := .bool true) (congrArg Value.bool (decide_eq_true (by omega)))) rfl rfl rfl ?_
            refine L_q (Q_move rfl) rfl rfl rfl ?_
            refine L_q (Q_move rfl) rfl rfl rfl ?_
            refine L_q (Q_nilCheck rfl) rfl rfl rfl ?_
            refine L_q (Q_fa0 rfl) rfl rfl rfl ?_
            refine L_q (Q_ld 4 rfl rfl rfl rfl) rfl rfl rfl ?_
            refine L_q (Q_move rfl) rfl rfl rfl ?_
            refine L_q (Q_sub (r := (A2.length : Int)) rfl rfl (by rw [show ((A2 ++ [x]).length : Int) - 1 = (A2.length : Int) by omega]; exact IntWalk.i64_in _ (by omega))) rfl rfl rfl ?_
            refine L_q (Q_ixAt 6 A2.length rfl rfl rfl rfl hPx rfl) rfl rfl rfl ?_
            refine L_q (Q_ldEAt 6 A2.length 0 (v := .pointer (some ⟨x.1, 0, none⟩)) rfl rfl rfl rfl hPx (by decide) (by rw [hPxg]; rfl)) rfl rfl rfl ?_
            refine L_q (Q_nilCheck rfl) rfl rfl rfl ?_
            refine L_q (Q_fa0 rfl) rfl rfl rfl ?_
            refine L_q (Q_ld 0 rfl rfl rfl rfl) rfl rfl rfl ?_
            refine L_q (Q_lenAt 1 rfl rfl) rfl rfl rfl ?_
            refine L_q ((Q_gtr rfl rfl).as (v' := .bool false) (congrArg Value.bool (decide_eq_false (by omega)))) rfl rfl rfl ?_
            refine L_q (Q_pickT rfl rfl) rfl rfl rfl ?_
            refine L_q (Q_assign rfl) rfl rfl rfl ?_
            refine JL_nil ?_
            refine ⟨rfl, false, fun h => Bool.noConfusion h, fun _ A3 y hy => ?_, ⟨rfl, rfl, rfl, trivial⟩, hcl2⟩
            obtain ⟨_, h9⟩ := List.append_inj' hy rfl
            obtain rfl : x = y := by simpa using h9
            omega
      rintro ρ4 L4 ⟨b, hb1, hb2, hsub, hent⟩
      refine J.sub hsub ?_
      refine J.ent hent ?_
      clear hsub hent
      cases b with
      | true =>
        obtain ⟨A2, x, rfl, hx⟩ := hb1 rfl
        obtain ⟨K1, k, rfl⟩ := snoc_of (l := K1) (by simp at hA; omega)
        have hA2 : K1.length = A2.length := by simpa using hA
        have hwx : wf 3 d x.2 := hw x (by simp)
        have eP : pL ((A2 ++ [x]) ++ e :: B) = pL (A2 ++ x :: e :: B) := by rw [List.append_assoc]; rfl
        have eS : ((A2 ++ [x]) ++ e :: B).map (ndE d) = (A2 ++ x :: e :: B).map (ndE d) := by rw [List.append_assoc]; rfl
        have eK : (K1 ++ [k]) ++ K2 = K1 ++ k :: K2 := by rw [List.append_assoc]; rfl
        have eI : ((A2 ++ [x]).length : Int) = ((A2.length + 1 : Nat) : Int) := by simp
        rw [eP, eS, eK]
        refine J.sub (e := [(0, .pointer (some ⟨p, 0, none⟩)), (1, .int .i64 ((A2.length + 1 : Nat) : Int)), (24, .bool true)]) ⟨rfl, by rw [← eI]; rfl, rfl, trivial⟩ ?_
        refine J_condT rfl ?_
        refine J_region ?_
        refine L_q (Q_move rfl) rfl rfl rfl ?_
        refine L_q (Q_move rfl) rfl rfl rfl ?_
        refine L_o rfl rfl rfl (O_call [0,1,2,3] [4] (fromLeft_ok E d p S R K1 K2 k A2 B x e hA2 (wf_mk hwx hx) hwe (by omega) (by simp at h7; omega) (by simp at hA h7; omega)) rfl rfl ?_)
        rintro _ _ ⟨rfl, k', cx, cy, mid, f1, f2, w1, w2, rfl⟩
        refine JL.norm ?_
        refine JL_nil ?_
        refine blockQ_normal ?_
        refine ⟨rfl, S, R, _, _, _, _, _, fill_left hA2 hB hw hu hk1 hk2 f1 f2 w1 w2, ⟨rfl, by rw [show ((A2 ++ [(x.1, cx)]).length : Int) = ((A2.length + 1 : Nat) : Int) by simp]; rfl, trivial⟩, ?_⟩
        rw [show (K1 ++ [k']) ++ K2 = K1 ++ k' :: K2 by rw [List.append_assoc]; rfl, show (A2 ++ [(x.1, cx)]) ++ (e.1, cy) :: B = A2 ++ (x.1, cx) :: (e.1, cy) :: B by rw [List.append_assoc]; rfl]
        exact Ent.refl _
      | false =>
        refine J_condF rfl ?_
        refine J_seq ?_
        refine J.mid (fun ρ' L' => ∃ b : Bool, (b = true → ∃ x B2, B = x :: B2 ∧ 3 < (tks d x.2).length) ∧ (b = false → ∀ x B2, B = x :: B2 → (tks d x.2).length = 3) ∧ envSub [(0, .pointer (some ⟨p, 0, none⟩)), (1, .int .i64 (A.length : Int)), (45, .bool b)] ρ' ∧ Ent L' [ndC p S R, slc tKv true S (K1 ++ K2), slc tNd true R (pL (A ++ e :: B)), stars ((A ++ e :: B).map (ndE d)), F]) ?_ ?_
        · cases B with
          | nil =>
            have hK0 : K2.length = 0 := hB
            refine J_region ?_
            refine L_q (Q_move rfl) rfl rfl rfl ?_
            refine L_q (Q_move rfl) rfl rfl rfl ?_
            refine L_q (Q_nilCheck rfl) rfl rfl rfl ?_
            refine L_q (Q_fa0 rfl) rfl rfl rfl ?_
            refine L_q (Q_ld 0 rfl rfl rfl rfl) rfl rfl rfl ?_
            refine L_q (Q_lenAt 1 rfl rfl) rfl rfl rfl ?_
            refine L_q ((Q_lss rfl rfl).as (v' := .bool false) (congrArg Value.bool (decide_eq_false (by simp only [List.length_append]; omega)))) rfl rfl rfl ?_
            refine L_q (Q_move rfl) rfl rfl rfl ?_
            refine L_n rfl rfl rfl ?_
            refine L_n rfl rfl rfl ?_
            refine L_n rfl rfl rfl ?_
            refine L_n rfl rfl rfl ?_
            refine L_n rfl rfl rfl ?_
            refine L_n rfl rfl rfl ?_
            refine L_n rfl rfl rfl ?_
            refine L_n rfl rfl rfl ?_
            refine L_n rfl rfl rfl ?_
            refine L_n rfl rfl rfl ?_
            refine L_n rfl rfl rfl ?_
            refine L_n rfl rfl rfl ?_
            refine L_n rfl rfl rfl ?_
            refine L_q (Q_pickF rfl rfl) rfl rfl rfl ?_
            refine L_q (Q_assign rfl) rfl rfl rfl ?_
            refine JL_nil ?_
            exact ⟨rfl, false, fun h => Bool.noConfusion h, fun _ x B2 h => (nomatch h), ⟨rfl, rfl, rfl, trivial⟩, Ent.refl _⟩
          | cons x B2 =>
            have hwx : wf 3 d x.2 := hw x (by simp)
            have hx3 := (wf_ks hwx).1
            have hPx : A.length + 1 < (pL (A ++ e :: x :: B2)).length := by rw [pL_len]; simp
            have hPxg := pL_get2 A B2 e x hPx
            have eS : A ++ e :: x :: B2 = (A ++ [e]) ++ x :: B2 := by simp
            rw [show stars ((A ++ e :: x :: B2).map (ndE d)) = stars (((A ++ [e]) ++ x :: B2).map (ndE d)) by rw [eS]]
            refine J.ent ((Ent.re [3, 0, 1, 2, 4] rfl).trans (Ent.mid_out (ndE d) (A ++ [e]) x B2)) ?_
            refine J.peek fun Sd Rd Z hZ => ?_
            have hcl2 : Ent (ndC x.1 Sd Rd :: slc tKv true Sd (tks d x.2) :: Z :: stars (((A ++ [e]) ++ B2).map (ndE d)) :: ndC p S R :: slc tKv true S (K1 ++ K2) :: slc tNd true R (pL (A ++ e :: x :: B2)) :: F :: []) [ndC p S R, slc tKv true S (K1 ++ K2), slc tNd true R (pL (A ++ e :: x :: B2)), stars (((A ++ [e]) ++ x :: B2).map (ndE d)), F] := ((hZ _).trans (Ent.mid_in (ndE d) (A ++ [e]) x B2)).trans (Ent.re [1, 2, 3, 0, 4] rfl)
            by_cases hb : 3 < (tks d x.2).length
            · skip
              refine J_region ?_
              refine L_q (Q_move rfl) rfl rfl rfl ?_
              refine L_q (Q_move rfl) rfl rfl rfl ?_
              refine L_q (Q_nilCheck rfl) rfl rfl rfl ?_
              refine L_q (Q_fa0 rfl) rfl rfl rfl ?_
              refine L_q (Q_ld 4 rfl rfl rfl rfl) rfl rfl rfl ?_
              refine L_q (Q_lenAt 5 rfl rfl) rfl rfl rfl ?_
              refine L_q ((Q_lss rfl rfl).as (v' := .bool true) (congrArg Value.bool (decide_eq_true (by simp at hB ⊢; omega)))) rfl rfl rfl ?_
              refine L_q (Q_move rfl) rfl rfl rfl ?_
              refine L_q (Q_move rfl) rfl rfl rfl ?_
              refine L_q (Q_nilCheck rfl) rfl rfl rfl ?_
              refine L_q (Q_fa0 rfl) rfl rfl rfl ?_
              refine L_q (Q_ld 4 rfl rfl rfl rfl) rfl rfl rfl ?_
              refine L_q (Q_move rfl) rfl rfl rfl ?_
              refine L_q (Q_add rfl rfl (by first | exact IntWalk.i64_in _ (by omega) | exact IntWalk.u8_in _ (by omega) | exact IntWalk.u32_in _ (by omega) | exact IntWalk.u64_in _ (by omega) | rfl)) rfl rfl rfl ?_
              refine L_q (Q_ixAt 6 (A.length + 1) rfl rfl rfl rfl hPx rfl) rfl rfl rfl ?_
              refine L_q (Q_ldEAt 6 (A.length + 1) 0 (v := .pointer (some ⟨x.1, 0, none⟩)) rfl rfl rfl rfl hPx (by decide) (by rw [hPxg]; rfl)) rfl rfl rfl ?_
              refine L_q (Q_nilCheck rfl) rfl rfl rfl ?_
              refine L_q (Q_fa0 rfl) rfl rfl rfl ?_
              refine L_q (Q_ld 0 rfl rfl rfl rfl) rfl rfl rfl ?_
              refine L_q (Q_lenAt 1 rfl rfl) rfl rfl rfl ?_
              refine L_q ((Q_gtr rfl rfl).as (v' := .bool true) (congrArg Value.bool (decide_eq_true (by omega)))) rfl rfl rfl ?_
              refine L_q (Q_pickT rfl rfl) rfl rfl rfl ?_
              refine L_q (Q_assign rfl) rfl rfl rfl ?_
              refine JL_nil ?_
              exact ⟨rfl, true, fun _ => ⟨x, B2, rfl, hb⟩, fun h => Bool.noConfusion h, ⟨rfl, rfl, rfl, trivial⟩, hcl2⟩
            · skip
              refine J_region ?_
              refine L_q (Q_move rfl) rfl rfl rfl ?_
              refine L_q (Q_move rfl) rfl rfl rfl ?_
              refine L_q (Q_nilCheck rfl) rfl rfl rfl ?_
              refine L_q (Q_fa0 rfl) rfl rfl rfl ?_
              refine L_q (Q_ld 4 rfl rfl rfl rfl) rfl rfl rfl ?_
              refine L_q (Q_lenAt 5 rfl rfl) rfl rfl rfl ?_
              refine L_q ((Q_lss rfl rfl).as (v' := .bool true) (congrArg Value.bool (decide_eq_true (by simp at hB ⊢; omega)))) rfl rfl rfl ?_
              refine L_q (Q_move rfl) rfl rfl rfl ?_
              refine L_q (Q_move rfl) rfl rfl rfl ?_
              refine L_q (Q_nilCheck rfl) rfl rfl rfl ?_
              refine L_q (Q_fa0 rfl) rfl rfl rfl ?_
              refine L_q (Q_ld 4 rfl rfl rfl rfl) rfl rfl rfl ?_
              refine L_q (Q_move rfl) rfl rfl rfl ?_
              refine L_q (Q_add rfl rfl (by first | exact IntWalk.i64_in _ (by omega) | exact IntWalk.u8_in _ (by omega) | exact IntWalk.u32_in _ (by omega) | exact IntWalk.u64_in _ (by omega) | rfl)) rfl rfl rfl ?_
              refine L_q (Q_ixAt 6 (A.length + 1) rfl rfl rfl rfl hPx rfl) rfl rfl rfl ?_
              refine L_q (Q_ldEAt 6 (A.length + 1) 0 (v := .pointer (some ⟨x.1, 0, none⟩)) rfl rfl rfl rfl hPx (by decide) (by rw [hPxg]; rfl)) rfl rfl rfl ?_
              refine L_q (Q_nilCheck rfl) rfl rfl rfl ?_
              refine L_q (Q_fa0 rfl) rfl rfl rfl ?_
              refine L_q (Q_ld 0 rfl rfl rfl rfl) rfl rfl rfl ?_
              refine L_q (Q_lenAt 1 rfl rfl) rfl rfl rfl ?_
              refine L_q ((Q_gtr rfl rfl).as (v' := .bool false) (congrArg Value.bool (decide_eq_false (by omega)))) rfl rfl rfl ?_
              refine L_q (Q_pickT rfl rfl) rfl rfl rfl ?_
              refine L_q (Q_assign rfl) rfl rfl rfl ?_
              refine JL_nil ?_
              refine ⟨rfl, false, fun h => Bool.noConfusion h, fun _ y B3 hy => ?_, ⟨rfl, rfl, rfl, trivial⟩, hcl2⟩
              obtain ⟨rfl, _⟩ := List.cons.inj hy
              omega
        rintro ρ6 L6 ⟨b, hr1, hr2, hsub, hent⟩
        refine J.sub hsub ?_
        refine J.ent hent ?_
        clear hsub hent
        cases b with
        | true =>
          obtain ⟨x, B2, rfl, hx⟩ := hr1 rfl
          obtain ⟨k, K2, rfl⟩ := cons_of (l := K2) (by simp at hB; omega)
          have hB2 : K2.length = B2.length := by simpa using hB
          have hwx : wf 3 d x.2 := hw x (by simp)
          refine J_condT rfl ?_
          refine J_region ?_
          refine L_q (Q_move rfl) rfl rfl rfl ?_
          refine L_q (Q_move rfl) rfl rfl rfl ?_
          refine L_o rfl rfl rfl (O_call [0,1,2,3] [4] (fromRight_ok E d p S R K1 K2 k A B2 e x hA hwe (wf_mk hwx hx) (by omega) (by simp at h7; omega) (by simp at hB h7; omega)) rfl rfl ?_)
          rintro _ _ ⟨rfl, k', cx, cy, mid, f1, f2, w1, w2, rfl⟩
          refine JL.norm ?_
          refine JL_nil ?_
          refine blockQ_normal ?_
          exact ⟨rfl, S, R, _, _, _, _, _, fill_right hA hB2 hw hu hk1 hk2 f1 f2 w1 w2, ⟨rfl, rfl, trivial⟩, Ent.refl _⟩
        | false =>
          refine J_condF rfl ?_
          refine J_seq ?_
          cases B with
          | cons x B2 =>
            obtain ⟨k, K2, rfl⟩ := cons_of (l := K2) (by simp at hB; omega)
            have hB2 : K2.length = B2.length := by simpa using hB
            have hwx : wf 3 d x.2 := hw x (by simp)
            refine J_region ?_
            refine L_q (Q_move rfl) rfl rfl rfl ?_
            refine L_q (Q_move rfl) rfl rfl rfl ?_
            refine L_q (Q_nilCheck rfl) rfl rfl rfl ?_
            refine L_q (Q_fa0 rfl) rfl rfl rfl ?_
            refine L_q (Q_ld 0 rfl rfl rfl rfl) rfl rfl rfl ?_
            refine L_q (Q_lenAt 1 rfl rfl) rfl rfl rfl ?_
            refine L_q ((Q_lss rfl rfl).as (v' := .bool true) (congrArg Value.bool (decide_eq_true (by simp; omega)))) rfl rfl rfl ?_
            refine L_q (Q_assign rfl) rfl rfl rfl ?_
            refine JL_nil ?_
            refine seqQ_normal ?_
            refine J_condT rfl ?_
            refine J_region ?_
            refine L_q (Q_move rfl) rfl rfl rfl ?_
            refine L_q (Q_move rfl) rfl rfl rfl ?_
            refine L_o rfl rfl rfl (O_call [0,1,2,3] [4] (merge_ok E d p S R K1 K2 k A B2 e x hA hwe hwx h3 (hr2 rfl x B2 rfl) (by simp at h7; omega) (by simp at hB h7; omega)) rfl rfl ?_)
            rintro _ _ ⟨rfl, S', R', cm, f1, w1, _, rfl⟩
            refine JL.norm ?_
            refine JL_nil ?_
            refine blockQ_normal ?_
            exact ⟨rfl, S', R', _, _, _, _, _, fill_mergeR hA hB2 hw hk1 hk2 f1 (wf_mk w1 (by omega)), ⟨rfl, rfl, trivial⟩, Ent.refl _⟩
          | nil =>
            have hK2 : K2 = [] := List.eq_nil_of_length_eq_zero (by simpa using hB)
            subst hK2
            obtain ⟨A2, x, rfl⟩ := snoc_of (l := A) (by simp at hn; omega)
            obtain ⟨K1, k, rfl⟩ := snoc_of (l := K1) (by simp at hA; omega)
            have hA2 : K1.length = A2.length := by simpa using hA
            have hwx : wf 3 d x.2 := hw x (by simp)
            have eP : pL ((A2 ++ [x]) ++ e :: []) = pL (A2 ++ x :: e :: []) := by rw [List.append_assoc]; rfl
            have eS : ((A2 ++ [x]) ++ e :: []).map (ndE d) = (A2 ++ x :: e :: []).map (ndE d) := by rw [List.append_assoc]; rfl
            have eK : (K1 ++ [k]) ++ [] = K1 ++ k :: [] := by rw [List.append_assoc]; rfl
            have eI : ((A2 ++ [x]).length : Int) - 1 = (A2.length : Int) := by simp
            refine J_region ?_
            refine L_q (Q_move rfl) rfl rfl rfl ?_
            refine L_q (Q_move rfl) rfl rfl rfl ?_
            refine L_q (Q_nilCheck rfl) rfl rfl rfl ?_
            refine L_q (Q_fa0 rfl) rfl rfl rfl ?_
            refine L_q (Q_ld 0 rfl rfl rfl rfl) rfl rfl rfl ?_
            refine L_q (Q_lenAt 1 rfl rfl) rfl rfl rfl ?_
            refine L_q ((Q_lss rfl rfl).as (v' := .bool false) (congrArg Value.bool (decide_eq_false (by simp at hA ⊢; omega)))) rfl rfl rfl ?_
            refine L_q (Q_assign rfl) rfl rfl rfl ?_
            refine JL_nil ?_
            refine seqQ_normal ?_
            refine J_condF rfl ?_
            refine J_seq ?_
            rw [eP, eS, eK]
            refine J_region ?_
            refine L_q (Q_move rfl) rfl rfl rfl ?_
            refine L_q (Q_move rfl) rfl rfl rfl ?_
            refine L_q (Q_sub (r := (A2.length : Int)) rfl rfl (by rw [eI]; exact IntWalk.i64_in _ (by simp at hA h7; omega))) rfl rfl rfl ?_
            refine L_o rfl rfl rfl (O_call [0,1,2,3] [4] (merge_ok E d p S R K1 [] k A2 [] x e hA2 hwx hwe (hb2 rfl A2 x rfl) h3 (by simp at h7 ⊢; omega) (by simp at hA h7 ⊢; omega)) rfl rfl ?_)
            rintro _ _ ⟨rfl, S', R', cm, f1, w1, _, rfl⟩
            refine JL.norm ?_
            refine JL_nil ?_
            refine seqQ_normal ?_
            refine J_region ?_
            refine L_q (Q_move rfl) rfl rfl rfl ?_
            refine L_q (Q_sub (r := (A2.length : Int)) rfl rfl (by rw [eI]; exact IntWalk.i64_in _ (by simp at hA h7; omega))) rfl rfl rfl ?_
            refine L_q (Q_assign rfl) rfl rfl rfl ?_
            refine JL_nil ?_
            refine blockQ_normal ?_
            exact ⟨rfl, S', R', _, _, _, _, _, fill_mergeL hA2 hB hw hk1 hk2 f1 (wf_mk w1 (by omega)), ⟨rfl, rfl, trivial⟩, Ent.refl _⟩
  rintro _ ρ' L' ⟨rfl, S', R', K1', K2', A', e', B', hF, hsub, hent⟩
  refine seqQ_normal ?_
  refine J.sub hsub ?_
  refine J.ent hent ?_
  have hP2 : A'.length < (pL (A' ++ e' :: B')).length := by rw [pL_len]; simp
  have hP2g : (pL (A' ++ e' :: B'))[A'.length] = some e'.1 := mid_get _ A' B' e' hP2
  refine J_seq ?_
  refine J_region ?_
  refine L_q (Q_move rfl) rfl rfl rfl ?_
  refine L_q (Q_nilCheck rfl) rfl rfl rfl ?_
  refine L_q (Q_fa0 rfl) rfl rfl rfl ?_
  refine L_q (Q_ld 0 rfl rfl rfl rfl) rfl rfl rfl ?_
  refine L_q (Q_move rfl) rfl rfl rfl ?_
  refine L_q (Q_ixAt 2 A'.length rfl rfl rfl rfl hP2 rfl) rfl rfl rfl ?_
  refine L_q (Q_ldEAt 2 A'.length 0 (v := .pointer (some ⟨e'.1, 0, none⟩)) rfl rfl rfl rfl hP2 (by decide) (by rw [hP2g]; rfl)) rfl rfl rfl ?_
  refine L_q (Q_assign rfl) rfl rfl rfl ?_
  refine JL_nil ?_
  refine seqQ_normal ?_
  refine J_ret ?_
  exact retQ_ret _ _ (.cons (RV_tmp rfl) .nil) ⟨S', R', K1', K2', A', e', B', hF, rfl, rfl⟩ (Ent.refl _)
end Go.Proofs
