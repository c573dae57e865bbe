/- A node's children taken out and put back; a full child split. -/
import Derived.Test.YtihlnjafeocbnaaTree1
set_option autoImplicit false
namespace Go.SL
theorem Ent.stars_split {A B L : List HProp} : Ent (stars (A ++ B) :: L) (stars A :: stars B :: L) := fun E w h => by
  have h1 : Sat E w (L ++ (A ++ B)) := (Sat.rot (A := [stars (A ++ B)]) (B := L) h).unfold
  rw [← List.append_assoc] at h1
  have h2 := h1.fold (A := L ++ A) (R := B)
  have h3 : Sat E w ([stars B] ++ (L ++ A)) := h2.rot
  rw [← List.append_assoc] at h3
  have h4 := h3.fold (A := [stars B] ++ L) (R := A)
  have h5 : Sat E w ([stars A] ++ ([stars B] ++ L)) := h4.rot
  exact h5
theorem Ent.stars_join {A B L : List HProp} : Ent (stars A :: stars B :: L) (stars (A ++ B) :: L) := fun E w h => by
  have h1 : Sat E w (([stars B] ++ L) ++ [stars A]) := Sat.rot (A := [stars A]) (B := [stars B] ++ L) h
  have h2 := h1.unfold
  rw [List.append_assoc] at h2
  have h3 : Sat E w ((L ++ A) ++ [stars B]) := Sat.rot (A := [stars B]) (B := L ++ A) h2
  have h4 := h3.unfold
  rw [List.append_assoc] at h4
  have h5 := h4.fold (A := L) (R := A ++ B)
  exact h5.rot
theorem Rd.begin {α : Type} {τ : Ty α} {w : World} {S : SV} {l : List α} (h : Rd τ w S l) (k : Nat) (hk : k ≤ l.length) : Rd τ w (S.sub τ.sz 0 k) (l.take k) := by
  have := h.sub 0 k (Nat.zero_le _) hk
  rwa [List.drop_zero] at this
theorem Rd.ends {α : Type} {τ : Ty α} {w : World} {S : SV} {l : List α} (h : Rd τ w S l) (k : Nat) (hk : k ≤ l.length) : Rd τ w (S.sub τ.sz k l.length) (l.drop k) := by
  have := h.sub k l.length hk (Nat.le_refl _)
  rwa [List.take_length] at this
end Go.SL
namespace Go.Proofs
open Go.SL
abbrev ptr (e : Option Nat) : Option Nat := e
abbrev pL {d : Nat} (es : List (Nat × T d)) : List (Option Nat) := es.map fun e => some e.1
theorem mid_get {α β : Type} (f : α → β) (A B : List α) (e : α) (h : A.length < ((A ++ e :: B).map f).length) : ((A ++ e :: B).map f)[A.length] = f e := by
  simp
theorem pL_app {d : Nat} (A B : List (Nat × T d)) (e : Nat × T d) : pL (A ++ e :: B) = pL A ++ some e.1 :: pL B := by simp [pL]
theorem pL_len {d : Nat} (A : List (Nat × T d)) : (pL A).length = A.length := by simp [pL]
theorem pl_get {P1 P2 : List (Option Nat)} {q : Option Nat} {i : Nat} (hi : P1.length = i) (h : i < (P1 ++ q :: P2).length) : (P1 ++ q :: P2)[i] = q := by
  subst hi; simp
/-- A look into a node. -/
theorem Sat.peek {E w : World} : ∀ {d p : Nat} {t : T d} {L : List HProp}, Sat E w (nodeA d p t :: L) → ∃ x : { x : SV × SV × HProp // ∀ L, Ent (ndC p x.1 x.2.1 :: slc tKv true x.1 (tks d t) :: x.2.2 :: L) (nodeA d p t :: L) }, Sat E w (ndC p x.1.1 x.1.2.1 :: slc tKv true x.1.1 (tks d t) :: x.1.2.2 :: L)
  | 0, p, t, L, h => by
    obtain ⟨g, hg⟩ := Sat.leaf_out h
    exact ⟨⟨(g.1, g.2, slc tNd true g.2 []), fun L => Ent.leafA⟩, hg⟩
  | d + 1, p, t, L, h => by
    obtain ⟨⟨g, hm⟩, hg⟩ := Sat.inner_out h
    refine ⟨⟨(g.1, g.2.1, star (slc tNd true g.2.1 (g.2.2.map fun e => some e.1)) (stars (g.2.2.map (ndE d)))), fun L E w h2 => ?_⟩, ?_⟩
    · have h3 := h2.pick [2, 0, 1] (by simp [okIdx]) |> fun _ => h2
      have h4 : Sat E w ([ndC p g.1 g.2.1, slc tKv true g.1 t.1] ++ star (slc tNd true g.2.1 (g.2.2.map fun e => some e.1)) (stars (g.2.2.map (ndE d))) :: L) := h2
      have h5 := Sat.rot h4
      have h6 := Sat.star h5
      have h7 : Sat E w ((slc tNd true g.2.1 (g.2.2.map fun e => some e.1) :: stars (g.2.2.map (ndE d)) :: L) ++ [ndC p g.1 g.2.1, slc tKv true g.1 t.1]) := h6
      exact Ent.innerA hm E w h7.rot
    · have h4 : Sat E w ([ndC p g.1 g.2.1, slc tKv true g.1 t.1] ++ (slc tNd true g.2.1 (g.2.2.map fun e => some e.1) :: stars (g.2.2.map (ndE d)) :: L)) := hg
      have h5 : Sat E w (slc tNd true g.2.1 (g.2.2.map fun e => some e.1) :: stars (g.2.2.map (ndE d)) :: (L ++ [ndC p g.1 g.2.1, slc tKv true g.1 t.1])) := h4.rot
      have h6 := Sat.mkstar h5
      have h7 : Sat E w ((star (slc tNd true g.2.1 (g.2.2.map fun e => some e.1)) (stars (g.2.2.map (ndE d))) :: L) ++ [ndC p g.1 g.2.1, slc tKv true g.1 t.1]) := h6
      exact h7.rot
theorem J.peek {P : Program} {E : World} {n : Nat} {c : Code} {Q : Post} {ρ : Env} {d p : Nat} {t : T d} {L : List HProp} (h : ∀ S R X, (∀ L, Ent (ndC p S R :: slc tKv true S (tks d t) :: X :: L) (nodeA d p t :: L)) → J P E n c Q ρ (ndC p S R :: slc tKv true S (tks d t) :: X :: L)) : J P E n c Q ρ (nodeA d p t :: L) :=
  J.open (fun _ hs => Sat.peek hs) fun x => h x.1.1 x.1.2.1 x.1.2.2 x.2
def spL (d : Nat) : T d → T d × T d := match d with
  | 0 => fun t => ((tks 0 t).take 3, (tks 0 t).drop 4)
  | _ + 1 => fun t => ((t.1.take 3, t.2.take 4), (t.1.drop 4, t.2.drop 4))
theorem seven {t : List Kv} (h : t.length = 7) : t = t.take 3 ++ t[3] :: t.drop 4 := by
  rw [← List.drop_eq_getElem_cons, List.take_append_drop]
theorem take37 {t : List Kv} (h : t.length = 7) : (t.take 3).length = 3 ∧ (t.drop 4).length = 3 := by simp; omega
theorem spL_ok {d : Nat} {t : T d} (hw : wf 3 d t) (h7 : (tks d t).length = 7) : flat d t = flat d (spL d t).1 ++ (tks d t)[3] :: flat d (spL d t).2 ∧ wf 3 d (spL d t).1 ∧ wf 3 d (spL d t).2 ∧ (tks d (spL d t).1).length = 3 ∧ (tks d (spL d t).2).length = 3 := by
  cases d with
  | zero =>
    have h := take37 h7
    exact ⟨seven h7, ⟨Nat.le_of_eq h.1.symm, Nat.le_trans (Nat.le_of_eq h.1) (by decide)⟩, ⟨Nat.le_of_eq h.2.symm, Nat.le_trans (Nat.le_of_eq h.2) (by decide)⟩, h.1, h.2⟩
  | succ d =>
    obtain ⟨K, C⟩ := t
    have h7 : K.length = 7 := h7
    obtain ⟨_, _, h3, h4⟩ := hw
    simp only at h3 h4
    refine ⟨?_, ⟨?_, ?_, ?_, fun c hc => h4 c (List.mem_of_mem_take hc)⟩, ⟨?_, ?_, ?_, fun c hc => h4 c (List.mem_of_mem_drop hc)⟩, ?_, ?_⟩
    · simp only [flat, spL, tks]
      have := ileave_join (K.take 3) (K.drop 4) K[3] ((C.take 4).map (flat d)) ((C.drop 4).map (flat d)) (by simp; omega)
      rw [← this, ← List.map_append, List.take_append_drop, ← seven h7]
    all_goals (simp only [spL, tks, List.length_take, List.length_drop]; omega)
theorem two_in {d : Nat} (A B : List (Nat × T d)) (q b : Nat) (c1 c2 : T d) (X Y Z F : HProp) : Ent [nodeA d b c2, stars ((A ++ B).map (ndE d)), nodeA d q c1, X, Y, Z, F] ([X, Y, Z, stars ((A ++ (q, c1) :: (b, c2) :: B).map (ndE d))] ++ [F]) :=
  (Ent.mid_in (ndE d) A (b, c2) B).trans ((Ent.re [1, 0, 2, 3, 4, 5] rfl).trans ((Ent.mid_in (ndE d) A (q, c1) ((b, c2) :: B)).trans (Ent.re [1, 2, 3, 0, 4] rfl)))
attribute [local irreducible] J JL QOp JOp seqQ blockQ loopQ retQ slc cel hex star pur stars Does RV Ent pAt scopeQ
attribute [local irreducible] nodeA
theorem split_ok (E : World) (d p : Nat) (S R : SV) (K1 K2 : List Kv) (A B : List (Nat × T d)) (e : Nat × T d) (hA : K1.length = A.length) (h7 : (tks d e.2).length = 7) (hw : wf 3 d e.2) (hK : K1.length + K2.length ≤ 1000) (hB : A.length + B.length ≤ 1000) :
    Does Try.prog E 31 [.pointer (some ⟨p, 0, none⟩), .int .i64 (A.length : Int)] [ndC p S R, slc tKv true S (K1 ++ K2), slc tNd true R (pL (A ++ e :: B)), stars ((A ++ e :: B).map (ndE d))]
    fun v L => v = .tuple #[] ∧ ∃ (S' R' : SV) (q : Nat), L = [ndC p S' R', slc tKv true S' (K1 ++ (tks d e.2)[3] :: K2), slc tNd true R' (pL (A ++ (e.1, (spL d e.2).1) :: (q, (spL d e.2).2) :: B)), stars ((A ++ (e.1, (spL d e.2).1) :: (q, (spL d e.2).2) :: B).map (ndE d))] := by
  obtain ⟨q0, c⟩ := e
  dsimp only at h7 hw ⊢
  have hPl : A.length < (pL (A ++ (q0, c) :: B)).length := by rw [pL_len]; simp
  have hPg : (pL (A ++ (q0, c) :: B))[A.length] = some q0 := mid_get _ A B (q0, c) hPl
  refine Does.of Try.func31 rfl Try.ntmps31 rfl rfl fun F => ?_
  refine J.norm ?_
  refine J_seq ?_
  refine J_region ?_
  refine L_q (Q_move rfl) rfl rfl rfl ?_
  refine L_q (Q_nilCheck rfl) rfl rfl rfl ?_
  refine L_q (Q_fa0 rfl) rfl rfl rfl ?_
  refine L_q (Q_ld 0 rfl rfl rfl rfl) rfl rfl rfl ?_
  refine L_q (Q_move rfl) rfl rfl rfl ?_
  refine L_q (Q_ixAt 2 A.length rfl rfl rfl rfl hPl rfl) rfl rfl rfl ?_
  refine L_q (Q_ldEAt 2 A.length 0 (v := .pointer (some ⟨q0, 0, none⟩)) rfl rfl rfl rfl hPl (by decide) (by rw [hPg]; rfl)) rfl rfl rfl ?_
  refine L_q (Q_assign rfl) rfl rfl rfl ?_
  refine JL_nil ?_
  refine seqQ_normal ?_
  refine J_seq ?_
  refine J.ent ((Ent.re [3, 0, 1, 2, 4] rfl).trans (Ent.mid_out (ndE d) A (q0, c) B)) ?_
  have hAle : A.length ≤ (K1 ++ K2).length := by simp; omega
  have eK : ∀ m : Kv, (K1 ++ K2).take A.length ++ m :: (K1 ++ K2).drop A.length = K1 ++ m :: K2 := fun m => by
    rw [← hA, List.take_left, List.drop_left]
  have hPle : A.length + 1 ≤ (pL (A ++ (q0, c) :: B)).length := by rw [pL_len]; simp
  have hPb : (pL (A ++ (q0, c) :: B)).length ≤ 100000 := by rw [pL_len]; simp; omega
  have eP : ∀ (q : Nat) (c1 c2 : T d), (pL (A ++ (q0, c) :: B)).take (A.length + 1) ++ some q :: (pL (A ++ (q0, c) :: B)).drop (A.length + 1) = pL (A ++ (q0, c1) :: (q, c2) :: B) := fun q c1 c2 => by
    rw [pL_app, pL_app]
    have e1 : (pL A ++ some q0 :: pL B).take (A.length + 1) = pL A ++ [some q0] := by
      have := List.take_left (l₁ := pL A ++ [some q0]) (l₂ := pL B)
      simp only [List.length_append, pL_len, List.length_singleton, List.append_assoc, List.singleton_append] at this
      exact this
    have e2 : (pL A ++ some q0 :: pL B).drop (A.length + 1) = pL B := by
      have := List.drop_left (l₁ := pL A ++ [some q0]) (l₂ := pL B)
      simp only [List.length_append, pL_len, List.length_singleton, List.append_assoc, List.singleton_append] at this
      exact this
    rw [e1, e2]; simp [pL]
  cases d with
  | zero =>
    refine J.leaf fun Sc Rc => ?_
    dsimp only at *
    have h3l : 3 < (tks 0 c).length := by omega
    refine J_region ?_
    refine L_q (Q_move rfl) rfl rfl rfl ?_
    refine L_q (Q_nilCheck rfl) rfl rfl rfl ?_
    refine L_q (Q_fa0 rfl) rfl rfl rfl ?_
    refine L_q (Q_ld 0 rfl rfl rfl rfl) rfl rfl rfl ?_
    refine L_q (Q_ixAt 1 3 rfl rfl rfl rfl h3l rfl) rfl rfl rfl ?_
    refine L_q (Q_ldEAAt 1 3 0 (vs := kvV (tks 0 c)[3]) rfl rfl rfl rfl h3l (by decide) rfl) rfl rfl rfl ?_
    refine L_o rfl rfl rfl (O_alloc fun b5 => ?_)
    refine L_s rfl rfl (O_stW 0 rfl rfl rfl rfl ?_)
    refine JL.norm ?_
    refine JL_nil ?_
    refine seqQ_normal ?_
    refine J_seq ?_
    refine J_region ?_
    refine L_q (Q_move rfl) rfl rfl rfl ?_
    refine L_q (Q_nilCheck rfl) rfl rfl rfl ?_
    refine L_q (Q_fa0 rfl) rfl rfl rfl ?_
    refine L_q (Q_ld 1 rfl rfl rfl rfl) rfl rfl rfl ?_
    refine L_q (Q_slL (τ := tKv) 4 (fun w h => h.rd 2 rfl) rfl rfl rfl (by omega) rfl) rfl rfl rfl ?_
    refine L_o rfl rfl rfl (O_call [2] [0,1,3,4,5,6,7,8] (kvcloneG E (slc tKv true Sc (tks 0 c)) (Sc.sub tKv.sz 4 (tks 0 c).length) ((tks 0 c).drop 4) (fun w L h => (h.rd 0 rfl).ends 4 (by omega)) (by simp; omega)) rfl rfl ?_)
    rintro _ _ ⟨V, rfl, rfl⟩
    refine JL.norm ?_
    refine L_q (Q_build rfl) rfl rfl rfl ?_
    refine L_o rfl rfl rfl (O_box rfl fun b27 => ?_)
    refine L_q (Q_assign rfl) rfl rfl rfl ?_
    refine JL_nil ?_
    refine seqQ_normal ?_
    refine J_seq ?_
    refine J_seq ?_
    refine J_region ?_
    refine L_q (Q_move rfl) rfl rfl rfl ?_
    refine L_o rfl rfl rfl (O_call [4,5] [0,1,2,3,6,7,8,9,10] (leaf_ok E q0 Sc Rc []) rfl rfl ?_)
    rintro _ _ ⟨rfl, rfl⟩
    refine JL.norm ?_
    refine L_q ((Q_not rfl).as (v' := .bool false) rfl) rfl rfl rfl ?_
    refine JL_nil ?_
    refine seqQ_normal ?_
    refine J_condF rfl ?_
    refine J_skip ?_
    refine seqQ_normal ?_
    refine J_seq ?_
    refine J_region ?_
    refine L_q (Q_move rfl) rfl rfl rfl ?_
    refine L_q (Q_move rfl) rfl rfl rfl ?_
    refine L_q (Q_nilCheck rfl) rfl rfl rfl ?_
    refine L_q (Q_fa0 rfl) rfl rfl rfl ?_
    refine L_q (Q_ld 0 rfl rfl rfl rfl) rfl rfl rfl ?_
    refine L_q (Q_slH (τ := tKv) 3 (fun w h => h.rd 3 rfl) rfl rfl rfl (by omega) rfl) rfl rfl rfl ?_
    refine L_o rfl rfl rfl (O_call [3] [0,1,2,4,5,6,7,8,9,10] (kvcloneG E (slc tKv true Sc (tks 0 c)) (Sc.sub tKv.sz 0 3) ((tks 0 c).take 3) (fun w L h => (h.rd 0 rfl).begin 3 (by omega)) (by simp; omega)) rfl rfl ?_)
    rintro _ _ ⟨V2, rfl, rfl⟩
    refine JL.norm ?_
    refine L_q (Q_nilCheck rfl) rfl rfl rfl ?_
    refine L_q (Q_fa0 rfl) rfl rfl rfl ?_
    refine L_s rfl rfl (O_st1 2 rfl rfl rfl rfl rfl ?_)
    refine JL.norm ?_
    refine JL_nil ?_
    refine seqQ_normal ?_
    refine J_seq ?_
    refine J_drawH [8,6] [0, 1, 2, 3, 4, 5, 6, 9, 10] (.quiet 0 (.quiet 1 (.quiet 2 (.quiet 3 (.quiet 4 (.quiet 5 (.quiet 6 (.loud 7 (.loud 8 (.quiet 9 (.quiet 10 (.loud 11 .done)))))))))))) Try.mixed (by kernel_rfl) (by kernel_rfl) (by repeat (first | exact retQ_noP | refine seqQ_noP ?_ | refine blockQ_noP ?_ | refine loopQ_noP ?_ | refine scopeQ_noP ?_ | (intro _ _ _ h; cases h.1))) ?_
    refine S_q (Ent.re [8,6] rfl) rfl (Q_move rfl) rfl rfl rfl ?_
    refine S_q (Ent.re [8,6] rfl) rfl (Q_move rfl) rfl rfl rfl ?_
    refine S_q (Ent.re [8,6] rfl) rfl (Q_nilCheck rfl) rfl rfl rfl ?_
    refine S_q (Ent.re [8,6] rfl) rfl (Q_fa0 rfl) rfl rfl rfl ?_
    refine S_q (Ent.re [8,6] rfl) rfl (Q_ld 0 rfl rfl rfl rfl) rfl rfl rfl ?_
    refine S_q (Ent.re [8,6] rfl) rfl (Q_move rfl) rfl rfl rfl ?_
    refine S_q (Ent.re [8,6] rfl) rfl (Q_ldA 1 rfl rfl rfl) rfl rfl rfl ?_
    refine S_o rfl rfl rfl rfl (O_litN (τ := tKv) (m := 1) (sz := 2) [(tks 0 c)[3]] rfl rfl rfl rfl rfl rfl (by decide) (by decide) (fun T => ⟨_, fun _ => ⟨Ent.reN [9,7] rfl, Ent.refl _⟩, ?_⟩))
    refine JS.norm ?_
    refine S_o rfl rfl rfl rfl (O_call [10,0] [1,2,3,4,5,6,7,8,9,11,12] (kvins_ok E S T (K1 ++ K2) (tks 0 c)[3] A.length hAle (by simp; omega)) rfl rfl ?_)
    (rintro _ _ ⟨S2, rfl, rfl⟩; refine ⟨_, fun _ => ⟨Ent.reN [9,7] rfl, Ent.refl _⟩, ?_⟩)
    refine JS.norm ?_
    refine S_q (Ent.re [9,7] rfl) rfl (Q_nilCheck rfl) rfl rfl rfl ?_
    refine S_q (Ent.re [9,7] rfl) rfl (Q_fa0 rfl) rfl rfl rfl ?_
    refine S_s rfl rfl rfl (O_st1 9 rfl rfl rfl rfl rfl ⟨[], free_no (by kernel_rfl), ?_⟩)
    refine JS.norm ?_
    refine S_nil ?_
    refine seqQ_normal ?_
    rw [eK]
    refine J_region ?_
    refine L_q (Q_move rfl) rfl rfl rfl ?_
    refine L_q (Q_move rfl) rfl rfl rfl ?_
    refine L_q (Q_nilCheck rfl) rfl rfl rfl ?_
    refine L_q (Q_fa0 rfl) rfl rfl rfl ?_
    refine L_q (Q_ld 9 rfl rfl rfl rfl) rfl rfl rfl ?_
    refine L_q (Q_move rfl) rfl rfl rfl ?_
    refine L_q (Q_add rfl rfl (by first | exact IntWalk.i64_in _ (by omega) | exact IntWalk.u8_in _ (by omega) | exact IntWalk.u32_in _ (by omega) | exact IntWalk.u64_in _ (by omega) | rfl)) rfl rfl rfl ?_
    refine L_q (Q_move rfl) rfl rfl rfl ?_
    refine L_o rfl rfl rfl (O_litN (τ := tNd) (m := 1) (sz := 1) [some b27] rfl rfl rfl rfl rfl rfl (by decide) (by decide) (fun T => ?_))
    refine JL.norm ?_
    refine L_o rfl rfl rfl (O_call [11,0] [1,2,3,4,5,6,7,8,9,10,12] (ndins_ok E R T (pL (A ++ (q0, c) :: B)) (some b27) (A.length + 1) hPle hPb) rfl rfl ?_)
    rintro _ _ ⟨R2, rfl, rfl⟩
    refine JL.norm ?_
    refine L_q (Q_nilCheck rfl) rfl rfl rfl ?_
    refine L_q (Q_fa0 rfl) rfl rfl rfl ?_
    refine L_s rfl rfl (O_st1 10 rfl rfl rfl rfl rfl ?_)
    refine JL.norm ?_
    refine JL_nil ?_
    rw [eP b27 (spL 0 c).1 (spL 0 c).2]
    refine retQ_normal [] _ .nil ⟨rfl, S2, R2, b27, rfl⟩ ?_
    refine (Ent.mk fun _ _ h => (h.lay_nil tNd true : Sat _ _ (slc tNd true SV.nil [] :: _))).trans ?_
    refine (Ent.re [7, 8, 0, 5, 4, 6, 10, 11, 2, 1, 12] rfl).trans ?_
    refine (Ent.leafA (t := (spL 0 c).2) (S := V) (Q := SV.nil)).trans ?_
    refine (Ent.re [1, 2, 3, 0, 4, 5, 6, 7, 8] rfl).trans ?_
    refine (Ent.leafA (t := (spL 0 c).1) (S := V2) (Q := Rc)).trans ?_
    refine (Ent.re [1, 2, 0, 3, 4, 5, 6] rfl).trans ?_
    exact two_in A B q0 b27 (spL 0 c).1 (spL 0 c).2 _ _ _ F
  | succ d =>
    have h7' : c.1.length = 7 := h7
    have hc8 : c.2.length = 8 := by have := hw.2.2.1; omega
    refine J.inner fun Sc Rc ces hces => ?_
    dsimp only at *
    have hcl : ces.length = 8 := by rw [← hc8, ← hces, List.length_map]
    have hpl8 : (pL ces).length = 8 := by rw [pL_len, hcl]
    have hlf := leaf_ok E q0 Sc Rc (pL ces)
    rw [hpl8] at hlf
    have h3l : 3 < c.1.length := by omega
    have hce : stars (ces.map (ndE d)) = stars ((ces.take 4).map (ndE d) ++ (ces.drop 4).map (ndE d)) := by rw [← List.map_append, List.take_append_drop]
    have hp4 : (pL ces).drop 4 = pL (ces.drop 4) := by simp [pL]
    have hp5 : (pL ces).take 4 = pL (ces.take 4) := by simp [pL]
    have hC4 : (ces.drop 4).map (·.2) = c.2.drop 4 := by rw [← hces, List.map_drop]
    have hC5 : (ces.take 4).map (·.2) = c.2.take 4 := by rw [← hces, List.map_take]
    refine J_region ?_
    refine L_q (Q_move rfl) rfl rfl rfl ?_
    refine L_q (Q_nilCheck rfl) rfl rfl rfl ?_
    refine L_q (Q_fa0 rfl) rfl rfl rfl ?_
    refine L_q (Q_ld 0 rfl rfl rfl rfl) rfl rfl rfl ?_
    refine L_q (Q_ixAt 1 3 rfl rfl rfl rfl h3l rfl) rfl rfl rfl ?_
    refine L_q (Q_ldEAAt 1 3 0 (vs := kvV c.1[3]) rfl rfl rfl rfl h3l (by decide) rfl) rfl rfl rfl ?_
    refine L_o rfl rfl rfl (O_alloc fun b5 => ?_)
    refine L_s rfl rfl (O_stW 0 rfl rfl rfl rfl ?_)
    refine JL.norm ?_
    refine JL_nil ?_
    refine seqQ_normal ?_
    refine J_seq ?_
    refine J_region ?_
    refine L_q (Q_move rfl) rfl rfl rfl ?_
    refine L_q (Q_nilCheck rfl) rfl rfl rfl ?_
    refine L_q (Q_fa0 rfl) rfl rfl rfl ?_
    refine L_q (Q_ld 1 rfl rfl rfl rfl) rfl rfl rfl ?_
    refine L_q (Q_slL (τ := tKv) 4 (fun w h => h.rd 2 rfl) rfl rfl rfl (by omega) rfl) rfl rfl rfl ?_
    refine L_o rfl rfl rfl (O_call [2] [0,1,3,4,5,6,7,8,9] (kvcloneG E (slc tKv true Sc c.1) (Sc.sub tKv.sz 4 c.1.length) (c.1.drop 4) (fun w L h => (h.rd 0 rfl).ends 4 (by omega)) (by simp; omega)) rfl rfl ?_)
    rintro _ _ ⟨V, rfl, rfl⟩
    refine JL.norm ?_
    refine L_q (Q_build rfl) rfl rfl rfl ?_
    refine L_o rfl rfl rfl (O_box rfl fun b27 => ?_)
    refine L_q (Q_assign rfl) rfl rfl rfl ?_
    refine JL_nil ?_
    refine seqQ_normal ?_
    refine J_seq ?_
    refine J_seq ?_
    refine J_region ?_
    refine L_q (Q_move rfl) rfl rfl rfl ?_
    refine L_o rfl rfl rfl (O_call [4,5] [0,1,2,3,6,7,8,9,10,11] hlf rfl rfl ?_)
    rintro _ _ ⟨rfl, rfl⟩
    refine JL.norm ?_
    refine L_q ((Q_not rfl).as (v' := .bool true) rfl) rfl rfl rfl ?_
    refine JL_nil ?_
    refine seqQ_normal ?_
    refine J_condT rfl ?_
    refine J_seq ?_
    refine J_region ?_
    refine L_q (Q_move rfl) rfl rfl rfl ?_
    refine L_q (Q_move rfl) rfl rfl rfl ?_
    refine L_q (Q_nilCheck rfl) rfl rfl rfl ?_
    refine L_q (Q_fa0 rfl) rfl rfl rfl ?_
    refine L_q (Q_ld 0 rfl rfl rfl rfl) rfl rfl rfl ?_
    refine L_q (Q_slL (τ := tNd) 4 (fun w h => h.rd 1 rfl) rfl rfl rfl (by omega) rfl) rfl rfl rfl ?_
    refine L_o rfl rfl rfl (O_call [1] [0,2,3,4,5,6,7,8,9,10,11] (ndcloneG E (slc tNd true Rc (pL ces)) (Rc.sub tNd.sz 4 (pL ces).length) ((pL ces).drop 4) (fun w L h => (h.rd 0 rfl).ends 4 (by omega)) (by simp; omega)) rfl rfl ?_)
    rintro _ _ ⟨W, rfl, rfl⟩
    refine JL.norm ?_
    refine L_q (Q_nilCheck rfl) rfl rfl rfl ?_
    refine L_q (Q_fa0 rfl) rfl rfl rfl ?_
    refine L_s rfl rfl (O_st1 3 rfl rfl rfl rfl rfl ?_)
    refine JL.norm ?_
    refine JL_nil ?_
    refine seqQ_normal ?_
    refine J_region ?_
    refine L_q (Q_move rfl) rfl rfl rfl ?_
    refine L_q (Q_move rfl) rfl rfl rfl ?_
    refine L_q (Q_nilCheck rfl) rfl rfl rfl ?_
    refine L_q (Q_fa0 rfl) rfl rfl rfl ?_
    refine L_q (Q_ld 2 rfl rfl rfl rfl) rfl rfl rfl ?_
    refine L_q (Q_slH (τ := tNd) 4 (fun w h => h.rd 0 rfl) rfl rfl rfl (by omega) rfl) rfl rfl rfl ?_
    refine L_o rfl rfl rfl (O_call [0] [1,2,3,4,5,6,7,8,9,10,11,12] (ndcloneG E (slc tNd true Rc (pL ces)) (Rc.sub tNd.sz 0 4) ((pL ces).take 4) (fun w L h => (h.rd 0 rfl).begin 4 (by omega)) (by simp; omega)) rfl rfl ?_)
    rintro _ _ ⟨W2, rfl, rfl⟩
    refine JL.norm ?_
    refine L_q (Q_nilCheck rfl) rfl rfl rfl ?_
    refine L_q (Q_fa0 rfl) rfl rfl rfl ?_
    refine L_s rfl rfl (O_st1 3 rfl rfl rfl rfl rfl ?_)
    refine JL.norm ?_
    refine JL_nil ?_
    refine seqQ_normal ?_
    refine J_seq ?_
    refine J.ent (Ent.re [1, 2, 3, 4, 5, 6, 7, 8, 9, 10, 11, 12, 13] rfl) ?_
    refine J_region ?_
    refine L_q (Q_move rfl) rfl rfl rfl ?_
    refine L_q (Q_move rfl) rfl rfl rfl ?_
    refine L_q (Q_nilCheck rfl) rfl rfl rfl ?_
    refine L_q (Q_fa0 rfl) rfl rfl rfl ?_
    refine L_q (Q_ld 2 rfl rfl rfl rfl) rfl rfl rfl ?_
    refine L_q (Q_slH (τ := tKv) 3 (fun w h => h.rd 4 rfl) rfl rfl rfl (by omega) rfl) rfl rfl rfl ?_
    refine L_o rfl rfl rfl (O_call [4] [0,1,2,3,5,6,7,8,9,10,11,12] (kvcloneG E (slc tKv true Sc c.1) (Sc.sub tKv.sz 0 3) (c.1.take 3) (fun w L h => (h.rd 0 rfl).begin 3 (by omega)) (by simp; omega)) rfl rfl ?_)
    rintro _ _ ⟨V2, rfl, rfl⟩
    refine JL.norm ?_
    refine L_q (Q_nilCheck rfl) rfl rfl rfl ?_
    refine L_q (Q_fa0 rfl) rfl rfl rfl ?_
    refine L_s rfl rfl (O_st1 4 rfl rfl rfl rfl rfl ?_)
    refine JL.norm ?_
    refine JL_nil ?_
    refine seqQ_normal ?_
    refine J_seq ?_
    refine J.ent (Ent.re [1, 2, 3, 4, 5, 6, 7, 8, 9, 10, 11, 12, 13] rfl) ?_
    refine J_drawH [9,6] [0, 1, 2, 3, 4, 5, 6, 9, 10] (.quiet 0 (.quiet 1 (.quiet 2 (.quiet 3 (.quiet 4 (.quiet 5 (.quiet 6 (.loud 7 (.loud 8 (.quiet 9 (.quiet 10 (.loud 11 .done)))))))))))) Try.mixed (by kernel_rfl) (by kernel_rfl) (by repeat (first | exact retQ_noP | refine seqQ_noP ?_ | refine blockQ_noP ?_ | refine loopQ_noP ?_ | refine scopeQ_noP ?_ | (intro _ _ _ h; cases h.1))) ?_
    refine S_q (Ent.re [9,6] rfl) rfl (Q_move rfl) rfl rfl rfl ?_
    refine S_q (Ent.re [9,6] rfl) rfl (Q_move rfl) rfl rfl rfl ?_
    refine S_q (Ent.re [9,6] rfl) rfl (Q_nilCheck rfl) rfl rfl rfl ?_
    refine S_q (Ent.re [9,6] rfl) rfl (Q_fa0 rfl) rfl rfl rfl ?_
    refine S_q (Ent.re [9,6] rfl) rfl (Q_ld 0 rfl rfl rfl rfl) rfl rfl rfl ?_
    refine S_q (Ent.re [9,6] rfl) rfl (Q_move rfl) rfl rfl rfl ?_
    refine S_q (Ent.re [9,6] rfl) rfl (Q_ldA 1 rfl rfl rfl) rfl rfl rfl ?_
    refine S_o rfl rfl rfl rfl (O_litN (τ := tKv) (m := 1) (sz := 2) [c.1[3]] rfl rfl rfl rfl rfl rfl (by decide) (by decide) (fun T => ⟨_, fun _ => ⟨Ent.reN [10,7] rfl, Ent.refl _⟩, ?_⟩))
    refine JS.norm ?_
    refine S_o rfl rfl rfl rfl (O_call [11,0] [1,2,3,4,5,6,7,8,9,10,12,13] (kvins_ok E S T (K1 ++ K2) c.1[3] A.length hAle (by simp; omega)) rfl rfl ?_)
    (rintro _ _ ⟨S2, rfl, rfl⟩; refine ⟨_, fun _ => ⟨Ent.reN [10,7] rfl, Ent.refl _⟩, ?_⟩)
    refine JS.norm ?_
    refine S_q (Ent.re [10,7] rfl) rfl (Q_nilCheck rfl) rfl rfl rfl ?_
    refine S_q (Ent.re [10,7] rfl) rfl (Q_fa0 rfl) rfl rfl rfl ?_
    refine S_s rfl rfl rfl (O_st1 10 rfl rfl rfl rfl rfl ⟨[], free_no (by kernel_rfl), ?_⟩)
    refine JS.norm ?_
    refine S_nil ?_
    refine seqQ_normal ?_
    rw [eK]
    refine J_region ?_
    refine L_q (Q_move rfl) rfl rfl rfl ?_
    refine L_q (Q_move rfl) rfl rfl rfl ?_
    refine L_q (Q_nilCheck rfl) rfl rfl rfl ?_
    refine L_q (Q_fa0 rfl) rfl rfl rfl ?_
    refine L_q (Q_ld 10 rfl rfl rfl rfl) rfl rfl rfl ?_
    refine L_q (Q_move rfl) rfl rfl rfl ?_
    refine L_q (Q_add rfl rfl (by first | exact IntWalk.i64_in _ (by omega) | exact IntWalk.u8_in _ (by omega) | exact IntWalk.u32_in _ (by omega) | exact IntWalk.u64_in _ (by omega) | rfl)) rfl rfl rfl ?_
    refine L_q (Q_move rfl) rfl rfl rfl ?_
    refine L_o rfl rfl rfl (O_litN (τ := tNd) (m := 1) (sz := 1) [some b27] rfl rfl rfl rfl rfl rfl (by decide) (by decide) (fun T => ?_))
    refine JL.norm ?_
    refine L_o rfl rfl rfl (O_call [12,0] [1,2,3,4,5,6,7,8,9,10,11,13] (ndins_ok E R T (pL (A ++ (q0, c) :: B)) (some b27) (A.length + 1) hPle hPb) rfl rfl ?_)
    rintro _ _ ⟨R2, rfl, rfl⟩
    refine JL.norm ?_
    refine L_q (Q_nilCheck rfl) rfl rfl rfl ?_
    refine L_q (Q_fa0 rfl) rfl rfl rfl ?_
    refine L_s rfl rfl (O_st1 11 rfl rfl rfl rfl rfl ?_)
    refine JL.norm ?_
    refine JL_nil ?_
    rw [eP b27 (spL (d + 1) c).1 (spL (d + 1) c).2, hce, hp4, hp5]
    refine retQ_normal [] _ .nil ⟨rfl, S2, R2, b27, rfl⟩ ?_
    refine (Ent.re [9, 6, 7, 4, 5, 2, 3, 10, 11, 1, 0, 12] rfl).trans ?_
    refine Ent.stars_split.trans ?_
    refine (Ent.re [2, 3, 4, 1, 8, 5, 6, 7, 0, 9, 10, 11, 12] rfl).trans ?_
    refine (Ent.innerA (es := ces.drop 4) (K := c.1.drop 4) (C := c.2.drop 4) (S := V) (Q := W) hC4).trans ?_
    refine (Ent.re [2, 3, 4, 5, 0, 1, 6, 7, 8, 9] rfl).trans ?_
    refine (Ent.innerA (es := ces.take 4) (K := c.1.take 3) (C := c.2.take 4) (S := V2) (Q := W2) hC5).trans ?_
    refine (Ent.re [1, 2, 0, 3, 4, 5, 6] rfl).trans ?_
    exact two_in A B q0 b27 (spL (d + 1) c).1 (spL (d + 1) c).2 _ _ _ F
end Go.Proofs
