/- Part 8 of the texts below the row: Tree2, Tree3. -/
import Derived.Test.YtgifbeecmidciaaGreatM7
/- A node's children taken out and put back; a full child split. -/
set_option autoImplicit false
namespace Go.SL
theorem Ent.stars_split {A B L : List HProp} : Ent (stars (A ++ B) :: L) (stars A :: stars B :: L) := fun E w h => by
 have h1 : Sat E w (L ++ (A ++ B)) := (Sat.rot (A := [stars (A ++ B)]) (B := L) h).unfold
 rw [← List.append_assoc] at h1
 have h2 := h1.fold (A := L ++ A) (R := B)
 have h3 : Sat E w ([stars B] ++ (L ++ A)) := h2.rot
 rw [← List.append_assoc] at h3
 have h4 := h3.fold (A := [stars B] ++ L) (R := A)
 have h5 : Sat E w ([stars A] ++ ([stars B] ++ L)) := h4.rot
 exact h5
theorem Ent.stars_join {A B L : List HProp} : Ent (stars A :: stars B :: L) (stars (A ++ B) :: L) := fun E w h => by
 have h1 : Sat E w (([stars B] ++ L) ++ [stars A]) := Sat.rot (A := [stars A]) (B := [stars B] ++ L) h
 have h2 := h1.unfold
 rw [List.append_assoc] at h2
 have h3 : Sat E w ((L ++ A) ++ [stars B]) := Sat.rot (A := [stars B]) (B := L ++ A) h2
 have h4 := h3.unfold
 rw [List.append_assoc] at h4
 have h5 := h4.fold (A := L) (R := A ++ B)
 exact h5.rot
theorem Rd.begin {α : Type} {τ : Ty α} {w : World} {S : SV} {l : List α} (h : Rd τ w S l) (k : Nat) (hk : k ≤ l.length) : Rd τ w (S.sub τ.sz 0 k) (l.take k) := by
 have := h.sub 0 k (Nat.zero_le _) hk
 rwa [List.drop_zero] at this
theorem Rd.ends {α : Type} {τ : Ty α} {w : World} {S : SV} {l : List α} (h : Rd τ w S l) (k : Nat) (hk : k ≤ l.length) : Rd τ w (S.sub τ.sz k l.length) (l.drop k) := by
 have := h.sub k l.length hk (Nat.le_refl _)
 rwa [List.take_length] at this
end Go.SL
namespace Go.Proofs.Bt
open Go.SL
abbrev pL {d : Nat} (es : List (Nat × T d)) : List (Option Nat) := es.map fun e => some e.1
theorem mid_get {α β : Type} (f : α → β) (A B : List α) (e : α) (h : A.length < ((A ++ e :: B).map f).length) : ((A ++ e :: B).map f)[A.length] = f e := by
 simp
theorem pL_app {d : Nat} (A B : List (Nat × T d)) (e : Nat × T d) : pL (A ++ e :: B) = pL A ++ some e.1 :: pL B := by simp [pL]
theorem pL_len {d : Nat} (A : List (Nat × T d)) : (pL A).length = A.length := by simp [pL]
/-- A look into a node. -/
theorem Sat.peek {E w : World} : ∀ {d p : Nat} {t : T d} {L : List HProp}, Sat E w (nodeA d p t :: L) → ∃ x : { x : SV × SV × HProp // ∀ L, Ent (ndC p x.1 x.2.1 :: slc tKv true x.1 (tks d t) :: x.2.2 :: L) (nodeA d p t :: L) }, Sat E w (ndC p x.1.1 x.1.2.1 :: slc tKv true x.1.1 (tks d t) :: x.1.2.2 :: L)
 | 0, p, t, L, h => by
  obtain ⟨g, hg⟩ := Sat.leaf_out h
  exact ⟨⟨(g.1, g.2, slc tNd true g.2 []), fun L => Ent.leafA⟩, hg⟩
 | d + 1, p, t, L, h => by
  obtain ⟨⟨g, hm⟩, hg⟩ := Sat.inner_out h
  refine ⟨⟨(g.1, g.2.1, star (slc tNd true g.2.1 (g.2.2.map fun e => some e.1)) (stars (g.2.2.map (ndE d)))), fun L E w h2 => ?_⟩, ?_⟩
  ·have h3 := h2.pick [2,0,1] (by simp [okIdx]) |> fun _ => h2
   have h4 : Sat E w ([ndC p g.1 g.2.1, slc tKv true g.1 t.1] ++ star (slc tNd true g.2.1 (g.2.2.map fun e => some e.1)) (stars (g.2.2.map (ndE d))) :: L) := h2
   have h5 := Sat.rot h4
   have h6 := Sat.star h5
   have h7 : Sat E w ((slc tNd true g.2.1 (g.2.2.map fun e => some e.1) :: stars (g.2.2.map (ndE d)) :: L) ++ [ndC p g.1 g.2.1, slc tKv true g.1 t.1]) := h6
   exact Ent.innerA hm E w h7.rot
  ·have h4 : Sat E w ([ndC p g.1 g.2.1, slc tKv true g.1 t.1] ++ (slc tNd true g.2.1 (g.2.2.map fun e => some e.1) :: stars (g.2.2.map (ndE d)) :: L)) := hg
   have h5 : Sat E w (slc tNd true g.2.1 (g.2.2.map fun e => some e.1) :: stars (g.2.2.map (ndE d)) :: (L ++ [ndC p g.1 g.2.1, slc tKv true g.1 t.1])) := h4.rot
   have h6 := Sat.mkstar h5
   have h7 : Sat E w ((star (slc tNd true g.2.1 (g.2.2.map fun e => some e.1)) (stars (g.2.2.map (ndE d))) :: L) ++ [ndC p g.1 g.2.1, slc tKv true g.1 t.1]) := h6
   exact h7.rot
theorem J.peek {P : Program} {E : World} {n : Nat} {c : Code} {Q : Post} {ρ : Env} {d p : Nat} {t : T d} {L : List HProp} (h : ∀ S R X, (∀ L, Ent (ndC p S R :: slc tKv true S (tks d t) :: X :: L) (nodeA d p t :: L)) → J P E n c Q ρ (ndC p S R :: slc tKv true S (tks d t) :: X :: L)) : J P E n c Q ρ (nodeA d p t :: L) :=
 J.open (fun _ hs => Sat.peek hs) fun x => h x.1.1 x.1.2.1 x.1.2.2 x.2
def spL (d : Nat) : T d → T d × T d := match d with
 | 0 => fun t => ((tks 0 t).take 3, (tks 0 t).drop 4)
 | _ + 1 => fun t => ((t.1.take 3, t.2.take 4), (t.1.drop 4, t.2.drop 4))
theorem seven {t : List Kv} (h : t.length = 7) : t = t.take 3 ++ t[3] :: t.drop 4 := by
 rw [← List.drop_eq_getElem_cons, List.take_append_drop]
theorem take37 {t : List Kv} (h : t.length = 7) : (t.take 3).length = 3 ∧ (t.drop 4).length = 3 := by simp; omega
theorem spL_ok {d : Nat} {t : T d} (hw : wf 3 d t) (h7 : (tks d t).length = 7) : flat d t = flat d (spL d t).1 ++ (tks d t)[3] :: flat d (spL d t).2 ∧ wf 3 d (spL d t).1 ∧ wf 3 d (spL d t).2 ∧ (tks d (spL d t).1).length = 3 ∧ (tks d (spL d t).2).length = 3 := by
 cases d with
 | zero =>
  have h := take37 h7
  exact ⟨seven h7, ⟨Nat.le_of_eq h.1.symm, Nat.le_trans (Nat.le_of_eq h.1) (by decide)⟩, ⟨Nat.le_of_eq h.2.symm, Nat.le_trans (Nat.le_of_eq h.2) (by decide)⟩, h.1, h.2⟩
 | succ d =>
  obtain ⟨K, C⟩ := t
  have h7 : K.length = 7 := h7
  obtain ⟨_, _, h3, h4⟩ := hw
  simp only at h3 h4
  refine ⟨?_, ⟨?_, ?_, ?_, fun c hc => h4 c (List.mem_of_mem_take hc)⟩, ⟨?_, ?_, ?_, fun c hc => h4 c (List.mem_of_mem_drop hc)⟩, ?_, ?_⟩
  ·simp only [flat, spL, tks]
   have := ileave_join (K.take 3) (K.drop 4) K[3] ((C.take 4).map (flat d)) ((C.drop 4).map (flat d)) (by simp; omega)
   rw [← this, ← List.map_append, List.take_append_drop, ← seven h7]
  all_goals (simp only [spL, tks, List.length_take, List.length_drop]; omega)
theorem two_in {d : Nat} (A B : List (Nat × T d)) (q b : Nat) (c1 c2 : T d) (X Y Z F : HProp) : Ent [nodeA d b c2, stars ((A ++ B).map (ndE d)), nodeA d q c1, X, Y, Z, F] ([X, Y, Z, stars ((A ++ (q, c1) :: (b, c2) :: B).map (ndE d))] ++ [F]) :=
 (Ent.mid_in (ndE d) A (b, c2) B).trans ((Ent.re [1,0,2,3,4,5] rfl).trans ((Ent.mid_in (ndE d) A (q, c1) ((b, c2) :: B)).trans (Ent.re [1,2,3,0,4] rfl)))
attribute [local irreducible] J JL QOp JOp seqQ blockQ loopQ retQ slc cel hex star pur stars Does RV Ent pAt scopeQ
attribute [local irreducible] nodeA
theorem split_ok (E : World) (d p : Nat) (S R : SV) (K1 K2 : List Kv) (A B : List (Nat × T d)) (e : Nat × T d) (hA : K1.length = A.length) (h7 : (tks d e.2).length = 7) (hw : wf 3 d e.2) (hK : K1.length + K2.length ≤ 1000) (hB : A.length + B.length ≤ 1000) :
 Does Tryz.prog E 101 [.pointer (some ⟨p, 0, none⟩), .int .i64 (A.length : Int)] [ndC p S R, slc tKv true S (K1 ++ K2), slc tNd true R (pL (A ++ e :: B)), stars ((A ++ e :: B).map (ndE d))]
 fun v L => v = .tuple #[] ∧ ∃ (S' R' : SV) (q : Nat), L = [ndC p S' R', slc tKv true S' (K1 ++ (tks d e.2)[3] :: K2), slc tNd true R' (pL (A ++ (e.1, (spL d e.2).1) :: (q, (spL d e.2).2) :: B)), stars ((A ++ (e.1, (spL d e.2).1) :: (q, (spL d e.2).2) :: B).map (ndE d))] := by
 obtain ⟨q0, c⟩ := e
 dsimp only at h7 hw ⊢
 have hPl : A.length < (pL (A ++ (q0, c) :: B)).length := by rw [pL_len]; simp
 have hPg : (pL (A ++ (q0, c) :: B))[A.length] = some q0 := mid_get _ A B (q0, c) hPl
 refine Does.of Tryz.func101 rfl Tryz.ntmps101 rfl rfl fun F => ?_
 refine J.norm ?_
 refine Sr ?_
 refine Lq (Q_move rfl) ?_
 refine Lq (Q_nilCheck rfl) ?_
 refine Lq (Q_fa0 rfl) ?_
 refine Lq (Q_ld 0 rfl rfl rfl rfl) ?_
 refine Lq (Q_move rfl) ?_
 refine Lq (Q_ixAt 2 A.length rfl rfl rfl rfl hPl rfl) ?_
 refine Lq (Q_ldEAt 2 A.length 0 (v := .pointer (some ⟨q0, 0, none⟩)) rfl rfl rfl rfl hPl (by decide) (by rw [hPg]; rfl)) ?_
 refine Lq (Q_assign rfl) ?_
 refine Ln ?_
 refine J_seq ?_
 refine J.ent ((Ent.re [3,0,1,2,4] rfl).trans (Ent.mid_out (ndE d) A (q0, c) B)) ?_
 have hAle : A.length ≤ (K1 ++ K2).length := by simp; omega
 have eK : ∀ m : Kv, (K1 ++ K2).take A.length ++ m :: (K1 ++ K2).drop A.length = K1 ++ m :: K2 := fun m => by
  rw [← hA, List.take_left, List.drop_left]
 have hPle : A.length + 1 ≤ (pL (A ++ (q0, c) :: B)).length := by rw [pL_len]; simp
 have hPb : (pL (A ++ (q0, c) :: B)).length ≤ 100000 := by rw [pL_len]; simp; omega
 have eP : ∀ (q : Nat) (c1 c2 : T d), (pL (A ++ (q0, c) :: B)).take (A.length + 1) ++ some q :: (pL (A ++ (q0, c) :: B)).drop (A.length + 1) = pL (A ++ (q0, c1) :: (q, c2) :: B) := fun q c1 c2 => by
  rw [pL_app, pL_app]
  have e1 : (pL A ++ some q0 :: pL B).take (A.length + 1) = pL A ++ [some q0] := by
   have := List.take_left (l₁ := pL A ++ [some q0]) (l₂ := pL B)
   simp only [List.length_append, pL_len, List.length_singleton, List.append_assoc, List.singleton_append] at this
   exact this
  have e2 : (pL A ++ some q0 :: pL B).drop (A.length + 1) = pL B := by
   have := List.drop_left (l₁ := pL A ++ [some q0]) (l₂ := pL B)
   simp only [List.length_append, pL_len, List.length_singleton, List.append_assoc, List.singleton_append] at this
   exact this
  rw [e1, e2]; simp [pL]
 cases d with
 | zero =>
  refine J.leaf fun Sc Rc => ?_
  dsimp only at *
  have h3l : 3 < (tks 0 c).length := by omega
  refine J_region ?_
  refine Lq (Q_move rfl) ?_
  refine Lq (Q_nilCheck rfl) ?_
  refine Lq (Q_fa0 rfl) ?_
  refine Lq (Q_ld 0 rfl rfl rfl rfl) ?_
  refine Lq (Q_ixAt 1 3 rfl rfl rfl rfl h3l rfl) ?_
  refine Lq (Q_ldEAAt 1 3 0 (vs := kvV (tks 0 c)[3]) rfl rfl rfl rfl h3l (by decide) rfl) ?_
  refine L_o rfl rfl rfl (O_alloc fun b5 => ?_)
  refine L_s rfl rfl (O_stW 0 rfl rfl rfl rfl ?_)
  refine JL.norm ?_
  refine Ln ?_
  refine Sr ?_
  refine Lq (Q_move rfl) ?_
  refine Lq (Q_nilCheck rfl) ?_
  refine Lq (Q_fa0 rfl) ?_
  refine Lq (Q_ld 1 rfl rfl rfl rfl) ?_
  refine Lq (Q_slL (τ := tKv) 4 (fun w h => h.rd 2 rfl) rfl rfl rfl (by omega) rfl) ?_
  refine L_o rfl rfl rfl (O_call [2] [0,1,3,4,5,6,7,8] (kvcloneG E (slc tKv true Sc (tks 0 c)) (Sc.sub tKv.sz 4 (tks 0 c).length) ((tks 0 c).drop 4) (fun w L h => (h.rd 0 rfl).ends 4 (by omega)) (by simp; omega)) rfl rfl ?_)
  rintro _ _ ⟨V, rfl, rfl⟩
  refine JL.norm ?_
  refine Lq (Q_build rfl) ?_
  refine L_o rfl rfl rfl (O_box rfl fun b27 => ?_)
  refine Lq (Q_assign rfl) ?_
  refine Ln ?_
  refine J_seq ?_
  refine Sr ?_
  refine Lq (Q_move rfl) ?_
  refine L_o rfl rfl rfl (O_call [4,5] [0,1,2,3,6,7,8,9,10] (leaf_ok E q0 Sc Rc []) rfl rfl ?_)
  rintro _ _ ⟨rfl, rfl⟩
  refine JL.norm ?_
  refine Lq ((Q_not rfl).as (v' := .bool false) rfl) ?_
  refine Ln ?_
  refine J_condF rfl ?_
  refine J_skip ?_
  refine seqQ_normal ?_
  refine Sr ?_
  refine Lq (Q_move rfl) ?_
  refine Lq (Q_move rfl) ?_
  refine Lq (Q_nilCheck rfl) ?_
  refine Lq (Q_fa0 rfl) ?_
  refine Lq (Q_ld 0 rfl rfl rfl rfl) ?_
  refine Lq (Q_slH (τ := tKv) 3 (fun w h => h.rd 3 rfl) rfl rfl rfl (by omega) rfl) ?_
  refine L_o rfl rfl rfl (O_call [3] [0,1,2,4,5,6,7,8,9,10] (kvcloneG E (slc tKv true Sc (tks 0 c)) (Sc.sub tKv.sz 0 3) ((tks 0 c).take 3) (fun w L h => (h.rd 0 rfl).begin 3 (by omega)) (by simp; omega)) rfl rfl ?_)
  rintro _ _ ⟨V2, rfl, rfl⟩
  refine JL.norm ?_
  refine Lq (Q_nilCheck rfl) ?_
  refine Lq (Q_fa0 rfl) ?_
  refine L_s rfl rfl (O_st1 2 rfl rfl rfl rfl rfl ?_)
  refine JL.norm ?_
  refine Ln ?_
  refine J_seq ?_
  refine DH [8,6] [0,1,2,3,4,5,6,9,10] (.quiet 0 (.quiet 1 (.quiet 2 (.quiet 3 (.quiet 4 (.quiet 5 (.quiet 6 (.loud 7 (.loud 8 (.quiet 9 (.quiet 10 (.loud 11 .done)))))))))))) Tryz.mixed ?_
  refine Sq (Ent.re [8,6] rfl) rfl (Q_move rfl) ?_
  refine Sq (Ent.re [8,6] rfl) rfl (Q_move rfl) ?_
  refine Sq (Ent.re [8,6] rfl) rfl (Q_nilCheck rfl) ?_
  refine Sq (Ent.re [8,6] rfl) rfl (Q_fa0 rfl) ?_
  refine Sq (Ent.re [8,6] rfl) rfl (Q_ld 0 rfl rfl rfl rfl) ?_
  refine Sq (Ent.re [8,6] rfl) rfl (Q_move rfl) ?_
  refine Sq (Ent.re [8,6] rfl) rfl (Q_ldA 1 rfl rfl rfl) ?_
  refine S_o rfl rfl rfl rfl (O_litN (τ := tKv) (m := 1) (sz := 2) [(tks 0 c)[3]] rfl rfl rfl rfl rfl rfl (by decide) (by decide) (fun T => ⟨_, fun _ => ⟨Ent.reN [9,7] rfl, Ent.refl _⟩, ?_⟩))
  refine JS.norm ?_
  refine S_o rfl rfl rfl rfl (O_call [10,0] [1,2,3,4,5,6,7,8,9,11,12] (kvins_ok E S T (K1 ++ K2) (tks 0 c)[3] A.length hAle (by simp; omega)) rfl rfl ?_)
  (rintro _ _ ⟨S2, rfl, rfl⟩; refine ⟨_, fun _ => ⟨Ent.reN [9,7] rfl, Ent.refl _⟩, ?_⟩)
  refine JS.norm ?_
  refine Sq (Ent.re [9,7] rfl) rfl (Q_nilCheck rfl) ?_
  refine Sq (Ent.re [9,7] rfl) rfl (Q_fa0 rfl) ?_
  refine S_s rfl rfl rfl (O_st1 9 rfl rfl rfl rfl rfl ⟨[], free_no (by kernel_rfl), ?_⟩)
  refine JS.norm ?_
  refine S_nil ?_
  refine seqQ_normal ?_
  rw [eK]
  refine J_region ?_
  refine Lq (Q_move rfl) ?_
  refine Lq (Q_move rfl) ?_
  refine Lq (Q_nilCheck rfl) ?_
  refine Lq (Q_fa0 rfl) ?_
  refine Lq (Q_ld 9 rfl rfl rfl rfl) ?_
  refine Lq (Q_move rfl) ?_
  refine Lq (Q_add rfl rfl (by first | exact IntWalk.i64_in _ (by omega) | exact IntWalk.u8_in _ (by omega) | exact IntWalk.u32_in _ (by omega) | exact IntWalk.u64_in _ (by omega) | rfl)) ?_
  refine Lq (Q_move rfl) ?_
  refine L_o rfl rfl rfl (O_litN (τ := tNd) (m := 1) (sz := 1) [some b27] rfl rfl rfl rfl rfl rfl (by decide) (by decide) (fun T => ?_))
  refine JL.norm ?_
  refine L_o rfl rfl rfl (O_call [11,0] [1,2,3,4,5,6,7,8,9,10,12] (ndins_ok E R T (pL (A ++ (q0, c) :: B)) (some b27) (A.length + 1) hPle hPb) rfl rfl ?_)
  rintro _ _ ⟨R2, rfl, rfl⟩
  refine JL.norm ?_
  refine Lq (Q_nilCheck rfl) ?_
  refine Lq (Q_fa0 rfl) ?_
  refine L_s rfl rfl (O_st1 10 rfl rfl rfl rfl rfl ?_)
  refine JL.norm ?_
  refine JL_nil ?_
  rw [eP b27 (spL 0 c).1 (spL 0 c).2]
  refine retQ_normal [] _ .nil ⟨rfl, S2, R2, b27, rfl⟩ ?_
  refine (Ent.mk fun _ _ h => (h.lay_nil tNd true : Sat _ _ (slc tNd true SV.nil [] :: _))).trans ?_
  refine (Ent.re [7,8,0,5,4,6,10,11,2,1,12] rfl).trans ?_
  refine (Ent.leafA (t := (spL 0 c).2) (S := V) (Q := SV.nil)).trans ?_
  refine (Ent.re [1,2,3,0,4,5,6,7,8] rfl).trans ?_
  refine (Ent.leafA (t := (spL 0 c).1) (S := V2) (Q := Rc)).trans ?_
  refine (Ent.re [1,2,0,3,4,5,6] rfl).trans ?_
  exact two_in A B q0 b27 (spL 0 c).1 (spL 0 c).2 _ _ _ F
 | succ d =>
  have h7' : c.1.length = 7 := h7
  have hc8 : c.2.length = 8 := by have := hw.2.2.1; omega
  refine J.inner fun Sc Rc ces hces => ?_
  dsimp only at *
  have hcl : ces.length = 8 := by rw [← hc8, ← hces, List.length_map]
  have hpl8 : (pL ces).length = 8 := by rw [pL_len, hcl]
  have hlf := leaf_ok E q0 Sc Rc (pL ces)
  rw [hpl8] at hlf
  have h3l : 3 < c.1.length := by omega
  have hce : stars (ces.map (ndE d)) = stars ((ces.take 4).map (ndE d) ++ (ces.drop 4).map (ndE d)) := by rw [← List.map_append, List.take_append_drop]
  have hp4 : (pL ces).drop 4 = pL (ces.drop 4) := by simp [pL]
  have hp5 : (pL ces).take 4 = pL (ces.take 4) := by simp [pL]
  have hC4 : (ces.drop 4).map (·.2) = c.2.drop 4 := by rw [← hces, List.map_drop]
  have hC5 : (ces.take 4).map (·.2) = c.2.take 4 := by rw [← hces, List.map_take]
  refine J_region ?_
  refine Lq (Q_move rfl) ?_
  refine Lq (Q_nilCheck rfl) ?_
  refine Lq (Q_fa0 rfl) ?_
  refine Lq (Q_ld 0 rfl rfl rfl rfl) ?_
  refine Lq (Q_ixAt 1 3 rfl rfl rfl rfl h3l rfl) ?_
  refine Lq (Q_ldEAAt 1 3 0 (vs := kvV c.1[3]) rfl rfl rfl rfl h3l (by decide) rfl) ?_
  refine L_o rfl rfl rfl (O_alloc fun b5 => ?_)
  refine L_s rfl rfl (O_stW 0 rfl rfl rfl rfl ?_)
  refine JL.norm ?_
  refine Ln ?_
  refine Sr ?_
  refine Lq (Q_move rfl) ?_
  refine Lq (Q_nilCheck rfl) ?_
  refine Lq (Q_fa0 rfl) ?_
  refine Lq (Q_ld 1 rfl rfl rfl rfl) ?_
  refine Lq (Q_slL (τ := tKv) 4 (fun w h => h.rd 2 rfl) rfl rfl rfl (by omega) rfl) ?_
  refine L_o rfl rfl rfl (O_call [2] [0,1,3,4,5,6,7,8,9] (kvcloneG E (slc tKv true Sc c.1) (Sc.sub tKv.sz 4 c.1.length) (c.1.drop 4) (fun w L h => (h.rd 0 rfl).ends 4 (by omega)) (by simp; omega)) rfl rfl ?_)
  rintro _ _ ⟨V, rfl, rfl⟩
  refine JL.norm ?_
  refine Lq (Q_build rfl) ?_
  refine L_o rfl rfl rfl (O_box rfl fun b27 => ?_)
  refine Lq (Q_assign rfl) ?_
  refine Ln ?_
  refine J_seq ?_
  refine Sr ?_
  refine Lq (Q_move rfl) ?_
  refine L_o rfl rfl rfl (O_call [4,5] [0,1,2,3,6,7,8,9,10,11] hlf rfl rfl ?_)
  rintro _ _ ⟨rfl, rfl⟩
  refine JL.norm ?_
  refine Lq ((Q_not rfl).as (v' := .bool true) rfl) ?_
  refine Ln ?_
  refine J_condT rfl ?_
  refine Sr ?_
  refine Lq (Q_move rfl) ?_
  refine Lq (Q_move rfl) ?_
  refine Lq (Q_nilCheck rfl) ?_
  refine Lq (Q_fa0 rfl) ?_
  refine Lq (Q_ld 0 rfl rfl rfl rfl) ?_
  refine Lq (Q_slL (τ := tNd) 4 (fun w h => h.rd 1 rfl) rfl rfl rfl (by omega) rfl) ?_
  refine L_o rfl rfl rfl (O_call [1] [0,2,3,4,5,6,7,8,9,10,11] (ndcloneG E (slc tNd true Rc (pL ces)) (Rc.sub tNd.sz 4 (pL ces).length) ((pL ces).drop 4) (fun w L h => (h.rd 0 rfl).ends 4 (by omega)) (by simp; omega)) rfl rfl ?_)
  rintro _ _ ⟨W, rfl, rfl⟩
  refine JL.norm ?_
  refine Lq (Q_nilCheck rfl) ?_
  refine Lq (Q_fa0 rfl) ?_
  refine L_s rfl rfl (O_st1 3 rfl rfl rfl rfl rfl ?_)
  refine JL.norm ?_
  refine Ln ?_
  refine J_region ?_
  refine Lq (Q_move rfl) ?_
  refine Lq (Q_move rfl) ?_
  refine Lq (Q_nilCheck rfl) ?_
  refine Lq (Q_fa0 rfl) ?_
  refine Lq (Q_ld 2 rfl rfl rfl rfl) ?_
  refine Lq (Q_slH (τ := tNd) 4 (fun w h => h.rd 0 rfl) rfl rfl rfl (by omega) rfl) ?_
  refine L_o rfl rfl rfl (O_call [0] [1,2,3,4,5,6,7,8,9,10,11,12] (ndcloneG E (slc tNd true Rc (pL ces)) (Rc.sub tNd.sz 0 4) ((pL ces).take 4) (fun w L h => (h.rd 0 rfl).begin 4 (by omega)) (by simp; omega)) rfl rfl ?_)
  rintro _ _ ⟨W2, rfl, rfl⟩
  refine JL.norm ?_
  refine Lq (Q_nilCheck rfl) ?_
  refine Lq (Q_fa0 rfl) ?_
  refine L_s rfl rfl (O_st1 3 rfl rfl rfl rfl rfl ?_)
  refine JL.norm ?_
  refine Ln ?_
  refine J_seq ?_
  refine J.ent (Ent.re [1,2,3,4,5,6,7,8,9,10,11,12,13] rfl) ?_
  refine J_region ?_
  refine Lq (Q_move rfl) ?_
  refine Lq (Q_move rfl) ?_
  refine Lq (Q_nilCheck rfl) ?_
  refine Lq (Q_fa0 rfl) ?_
  refine Lq (Q_ld 2 rfl rfl rfl rfl) ?_
  refine Lq (Q_slH (τ := tKv) 3 (fun w h => h.rd 4 rfl) rfl rfl rfl (by omega) rfl) ?_
  refine L_o rfl rfl rfl (O_call [4] [0,1,2,3,5,6,7,8,9,10,11,12] (kvcloneG E (slc tKv true Sc c.1) (Sc.sub tKv.sz 0 3) (c.1.take 3) (fun w L h => (h.rd 0 rfl).begin 3 (by omega)) (by simp; omega)) rfl rfl ?_)
  rintro _ _ ⟨V2, rfl, rfl⟩
  refine JL.norm ?_
  refine Lq (Q_nilCheck rfl) ?_
  refine Lq (Q_fa0 rfl) ?_
  refine L_s rfl rfl (O_st1 4 rfl rfl rfl rfl rfl ?_)
  refine JL.norm ?_
  refine Ln ?_
  refine J_seq ?_
  refine J.ent (Ent.re [1,2,3,4,5,6,7,8,9,10,11,12,13] rfl) ?_
  refine DH [9,6] [0,1,2,3,4,5,6,9,10] (.quiet 0 (.quiet 1 (.quiet 2 (.quiet 3 (.quiet 4 (.quiet 5 (.quiet 6 (.loud 7 (.loud 8 (.quiet 9 (.quiet 10 (.loud 11 .done)))))))))))) Tryz.mixed ?_
  refine Sq (Ent.re [9,6] rfl) rfl (Q_move rfl) ?_
  refine Sq (Ent.re [9,6] rfl) rfl (Q_move rfl) ?_
  refine Sq (Ent.re [9,6] rfl) rfl (Q_nilCheck rfl) ?_
  refine Sq (Ent.re [9,6] rfl) rfl (Q_fa0 rfl) ?_
  refine Sq (Ent.re [9,6] rfl) rfl (Q_ld 0 rfl rfl rfl rfl) ?_
  refine Sq (Ent.re [9,6] rfl) rfl (Q_move rfl) ?_
  refine Sq (Ent.re [9,6] rfl) rfl (Q_ldA 1 rfl rfl rfl) ?_
  refine S_o rfl rfl rfl rfl (O_litN (τ := tKv) (m := 1) (sz := 2) [c.1[3]] rfl rfl rfl rfl rfl rfl (by decide) (by decide) (fun T => ⟨_, fun _ => ⟨Ent.reN [10,7] rfl, Ent.refl _⟩, ?_⟩))
  refine JS.norm ?_
  refine S_o rfl rfl rfl rfl (O_call [11,0] [1,2,3,4,5,6,7,8,9,10,12,13] (kvins_ok E S T (K1 ++ K2) c.1[3] A.length hAle (by simp; omega)) rfl rfl ?_)
  (rintro _ _ ⟨S2, rfl, rfl⟩; refine ⟨_, fun _ => ⟨Ent.reN [10,7] rfl, Ent.refl _⟩, ?_⟩)
  refine JS.norm ?_
  refine Sq (Ent.re [10,7] rfl) rfl (Q_nilCheck rfl) ?_
  refine Sq (Ent.re [10,7] rfl) rfl (Q_fa0 rfl) ?_
  refine S_s rfl rfl rfl (O_st1 10 rfl rfl rfl rfl rfl ⟨[], free_no (by kernel_rfl), ?_⟩)
  refine JS.norm ?_
  refine S_nil ?_
  refine seqQ_normal ?_
  rw [eK]
  refine J_region ?_
  refine Lq (Q_move rfl) ?_
  refine Lq (Q_move rfl) ?_
  refine Lq (Q_nilCheck rfl) ?_
  refine Lq (Q_fa0 rfl) ?_
  refine Lq (Q_ld 10 rfl rfl rfl rfl) ?_
  refine Lq (Q_move rfl) ?_
  refine Lq (Q_add rfl rfl (by first | exact IntWalk.i64_in _ (by omega) | exact IntWalk.u8_in _ (by omega) | exact IntWalk.u32_in _ (by omega) | exact IntWalk.u64_in _ (by omega) | rfl)) ?_
  refine Lq (Q_move rfl) ?_
  refine L_o rfl rfl rfl (O_litN (τ := tNd) (m := 1) (sz := 1) [some b27] rfl rfl rfl rfl rfl rfl (by decide) (by decide) (fun T => ?_))
  refine JL.norm ?_
  refine L_o rfl rfl rfl (O_call [12,0] [1,2,3,4,5,6,7,8,9,10,11,13] (ndins_ok E R T (pL (A ++ (q0, c) :: B)) (some b27) (A.length + 1) hPle hPb) rfl rfl ?_)
  rintro _ _ ⟨R2, rfl, rfl⟩
  refine JL.norm ?_
  refine Lq (Q_nilCheck rfl) ?_
  refine Lq (Q_fa0 rfl) ?_
  refine L_s rfl rfl (O_st1 11 rfl rfl rfl rfl rfl ?_)
  refine JL.norm ?_
  refine JL_nil ?_
  rw [eP b27 (spL (d + 1) c).1 (spL (d + 1) c).2, hce, hp4, hp5]
  refine retQ_normal [] _ .nil ⟨rfl, S2, R2, b27, rfl⟩ ?_
  refine (Ent.re [9,6,7,4,5,2,3,10,11,1,0,12] rfl).trans ?_
  refine Ent.stars_split.trans ?_
  refine (Ent.re [2,3,4,1,8,5,6,7,0,9,10,11,12] rfl).trans ?_
  refine (Ent.innerA (es := ces.drop 4) (K := c.1.drop 4) (C := c.2.drop 4) (S := V) (Q := W) hC4).trans ?_
  refine (Ent.re [2,3,4,5,0,1,6,7,8,9] rfl).trans ?_
  refine (Ent.innerA (es := ces.take 4) (K := c.1.take 3) (C := c.2.take 4) (S := V2) (Q := W2) hC5).trans ?_
  refine (Ent.re [1,2,0,3,4,5,6] rfl).trans ?_
  exact two_in A B q0 b27 (spL (d + 1) c).1 (spL (d + 1) c).2 _ _ _ F
end Go.Proofs.Bt
/- A pair put below a node. -/
set_option autoImplicit false
namespace Go.Proofs.Bt
open Go.SL
/-- A tree with these pairs. -/
def nodeX (m d p : Nat) (l : List Kv) : HProp := hex fun t : T d => star (pur (wf m d t ∧ flat d t = l)) (nodeA d p t)
theorem Ent.mkX {m d p : Nat} {t : T d} {l : List Kv} {L : List HProp} (hw : wf m d t) (hf : flat d t = l) : Ent (nodeA d p t :: L) (nodeX m d p l :: L) := fun E w h => by
 have h1 : Sat E w (pur (wf m d t ∧ flat d t = l) :: nodeA d p t :: L) := h.lay fun _ => ⟨hw, hf⟩
 exact (h1.mkstar).mkex (f := fun t : T d => star (pur (wf m d t ∧ flat d t = l)) (nodeA d p t)) t
theorem Sat.outX {E w : World} {m d p : Nat} {l : List Kv} {L : List HProp} (h : Sat E w (nodeX m d p l :: L)) : ∃ t : { t : T d // wf m d t ∧ flat d t = l }, Sat E w (nodeA d p t.1 :: L) := by
 obtain ⟨t, ht⟩ := Sat.ex (f := fun t : T d => star (pur (wf m d t ∧ flat d t = l)) (nodeA d p t)) h
 obtain ⟨hm, h2⟩ := ht.star.fact
 exact ⟨⟨t, hm⟩, h2⟩
theorem J.outX {P : Program} {E : World} {n : Nat} {c : Code} {Q : Post} {ρ : Env} {m d p : Nat} {l : List Kv} {L : List HProp} (h : ∀ t : T d, wf m d t → flat d t = l → J P E n c Q ρ (nodeA d p t :: L)) : J P E n c Q ρ (nodeX m d p l :: L) :=
 J.open (fun _ hs => Sat.outX hs) fun t => h t.1 t.2.1 t.2.2
abbrev parL {d : Nat} (p : Nat) (S R : SV) (K : List Kv) (P : List (Option Nat)) (A : List (Nat × T d)) (G : HProp) : List HProp := [ndC p S R, slc tKv true S K, slc tNd true R P, stars (A.map (ndE d)), G]
/-- A child put back into its parent. -/
theorem plugX {m d p q : Nat} {S R : SV} {K1 K2 : List Kv} {A B : List (Nat × T d)} {lc l' : List Kv} {G : HProp} (hA : K1.length = A.length) (hB : K2.length = B.length) (hm : m ≤ K1.length + K2.length) (h7 : K1.length + K2.length ≤ 7) (hw : ∀ e ∈ A ++ B, wf 3 d e.2) (hl : l' = preF d K1 (A.map (·.2)) ++ lc ++ postF d K2 (B.map (·.2))) :
 Ent [nodeX 3 d q lc, stars (parL p S R (K1 ++ K2) (pL A ++ some q :: pL B) (A ++ B) G)] [nodeX m (d + 1) p l', G] := fun E w h => by
 obtain ⟨⟨t, ht, hf⟩, h1⟩ := Sat.outX h
 have h2 : Sat E w ([nodeA d q t] ++ parL p S R (K1 ++ K2) (pL A ++ some q :: pL B) (A ++ B) G) := Sat.unfold (A := [nodeA d q t]) h1
 rw [← pL_app A B (q, t)] at h2
 have e1 : Ent (nodeA d q t :: parL p S R (K1 ++ K2) (pL (A ++ (q, t) :: B)) (A ++ B) G) [nodeA d q t, stars ((A ++ B).map (ndE d)), ndC p S R, slc tKv true S (K1 ++ K2), slc tNd true R (pL (A ++ (q, t) :: B)), G] := Ent.re [0,4,1,2,3,5] rfl
 have e2 := e1.trans (Ent.mid_in (ndE d) A (q, t) B)
 have e3 := e2.trans (Ent.re [1,2,3,0,4] rfl)
 have e4 := e3.trans (Ent.innerA (es := A ++ (q, t) :: B) (C := A.map (·.2) ++ t :: B.map (·.2)) (by simp))
 refine (e4.trans (Ent.mkX (m := m) (l := l') ⟨by simp; omega, by simp; omega, by simp; omega, ?_⟩ ?_)) E w h2
 ·intro c hc
  rcases List.mem_append.1 hc with hc | hc
  ·obtain ⟨e, he, rfl⟩ := List.mem_map.1 hc
   exact hw e (by simp [he])
  ·rcases List.mem_cons.1 hc with rfl | hc
   ·exact ht
   ·obtain ⟨e, he, rfl⟩ := List.mem_map.1 hc
    exact hw e (by simp [he])
 ·rw [flat_at K1 K2 (A.map (·.2)) (B.map (·.2)) t (by simpa using hA), hf, hl]
/-- A child taken out of its parent. -/
theorem Ent.down {d p : Nat} {S R : SV} {K : List Kv} {A B : List (Nat × T d)} {e : Nat × T d} {X G : HProp} : Ent [ndC p S R, slc tKv true S K, slc tNd true R (pL (A ++ e :: B)), stars ((A ++ e :: B).map (ndE d)), X, G] [nodeA d e.1 e.2, X, stars (parL p S R K (pL A ++ some e.1 :: pL B) (A ++ B) G)] := fun E w h => by
 have h1 := (Ent.re [3,0,1,2,4,5] rfl : Ent _ [stars ((A ++ e :: B).map (ndE d)), ndC p S R, slc tKv true S K, slc tNd true R (pL (A ++ e :: B)), X, G]) E w h
 have h2 := Ent.mid_out (ndE d) A e B E w h1
 have h3 := (Ent.re [0,5,2,3,4,1,6] rfl : Ent _ [nodeA d e.1 e.2, X, ndC p S R, slc tKv true S K, slc tNd true R (pL (A ++ e :: B)), stars ((A ++ B).map (ndE d)), G]) E w h2
 rw [pL_app] at h3
 exact Sat.fold (A := [nodeA d e.1 e.2, X]) h3
theorem split_at {α : Type} {l : List α} {i : Nat} (h : i < l.length) : ∃ A e B, l = A ++ e :: B ∧ A.length = i := ⟨l.take i, l[i], l.drop (i + 1), by rw [← List.drop_eq_getElem_cons, List.take_append_drop], by simp; omega⟩
theorem hit_split {l : List Kv} (h : Up l) {k : Ky} (hh : hasL l k = true) : ∃ K1 K2 u, l = K1 ++ ⟨k, u⟩ :: K2 ∧ K1.length = posK l k := by
 rcases up_lo_hi h k with ⟨u, hu⟩ | ⟨_, hf⟩
 ·exact ⟨lo l k, hi l k, u, hu, rfl⟩
 ·rw [hf] at hh; cases hh
theorem miss_split {l : List Kv} (h : Up l) {k : Ky} (hh : hasL l k = false) : ∃ K1 K2, l = K1 ++ K2 ∧ K1.length = posK l k ∧ Bel K1 k ∧ Abv K2 k := by
 rcases up_lo_hi h k with ⟨u, hu⟩ | ⟨hu, _⟩
 ·have : hasL l k = true := by rw [hu]; exact has_hit u
  rw [this] at hh; cases hh
 ·exact ⟨lo l k, hi l k, hu, rfl, lo_Bel l k, hi_Abv l k⟩
theorem set_mid {α : Type} {X Y : List α} {x y : α} {i : Nat} (h : X.length = i) : (X ++ x :: Y).set i y = X ++ y :: Y := by
 subst h; simp
theorem get_mid {α : Type} {X Y : List α} {x : α} {i : Nat} (h : X.length = i) (h2 : i < (X ++ x :: Y).length) : (X ++ x :: Y)[i] = x := by
 subst h; simp
theorem ins_mid {α : Type} {X Y : List α} {i : Nat} (x : α) (h : X.length = i) : (X ++ Y).take i ++ x :: (X ++ Y).drop i = X ++ x :: Y := by
 subst h; rw [List.take_left, List.drop_left]
/-- The key is in the node itself. -/
theorem inner_hit {d : Nat} {K1 K2 : List Kv} {k u v : Ky} {C : List (T d)} (hC : C.length = K1.length + K2.length + 2) (h : Up (flat (d + 1) (K1 ++ ⟨k, u⟩ :: K2, C))) : flat (d + 1) (K1 ++ ⟨k, v⟩ :: K2, C) = putL (flat (d + 1) (K1 ++ ⟨k, u⟩ :: K2, C)) k v ∧ hasL (flat (d + 1) (K1 ++ ⟨k, u⟩ :: K2, C)) k = true := by
 obtain ⟨A, c, B, rfl, hA⟩ := split_at (l := C) (i := K1.length) (by omega)
 have hB : ∃ c' B', B = c' :: B' := by
  cases B with
  | nil => simp at hC; omega
  | cons c' B' => exact ⟨c', B', rfl⟩
 obtain ⟨c', B', rfl⟩ := hB
 have e : ∀ w : Ky, flat (d + 1) (K1 ++ ⟨k, w⟩ :: K2, A ++ c :: c' :: B') = (preF d K1 A ++ flat d c) ++ ⟨k, w⟩ :: (flat d c' ++ postF d K2 B') := fun w => by
  rw [flat_2 K1 K2 _ A B' c c' hA.symm]; simp
 rw [e] at h
 obtain ⟨h1, h2, _, _⟩ := up_mid h
 rw [e, e]
 exact ⟨(put_hit h1 h2 u v).symm, has_hit u⟩
/-- The key is below a child. -/
theorem inner_miss {d : Nat} {K1 K2 : List Kv} {k : Ky} {A B : List (T d)} {c : T d} (hA : K1.length = A.length) (h : Up (flat (d + 1) (K1 ++ K2, A ++ c :: B))) (h1 : Bel K1 k) (h2 : Abv K2 k) :
 Up (flat d c) ∧ Bel (preF d K1 A) k ∧ Abv (postF d K2 B) k ∧ (∀ v, putL (flat (d + 1) (K1 ++ K2, A ++ c :: B)) k v = preF d K1 A ++ putL (flat d c) k v ++ postF d K2 B) ∧ delL (flat (d + 1) (K1 ++ K2, A ++ c :: B)) k = preF d K1 A ++ delL (flat d c) k ++ postF d K2 B ∧ hasL (flat (d + 1) (K1 ++ K2, A ++ c :: B)) k = hasL (flat d c) k ∧ getL (flat (d + 1) (K1 ++ K2, A ++ c :: B)) k = getL (flat d c) k := by
 rw [flat_at K1 K2 A B c hA] at h ⊢
 obtain ⟨u1, u2⟩ := up_app h
 obtain ⟨u3, u4⟩ := up_app u1
 have hx := pre_bel K1 (A.map (flat d)) u3 h1
 have hy := post_abv K2 (B.map (flat d)) u2 h2
 exact ⟨u4, hx, hy, put_ctx hx hy, del_ctx hx hy, has_ctx hx hy, get_ctx hx hy⟩
structure It where
 d : Nat
 p : Nat
 m : Nat
 t : T d
 G : HProp
attribute [local irreducible] J JL QOp JOp seqQ blockQ loopQ retQ slc cel hex star pur stars Does RV Ent pAt scopeQ
attribute [local irreducible] nodeA nodeX
theorem nput_ok (E : World) (d0 p0 m0 : Nat) (t0 : T d0) (k v : Ky) (hw0 : wf m0 d0 t0) (h60 : (tks d0 t0).length ≤ 6) (hu0 : Up (flat d0 t0)) : Does Tryz.prog E 102 [.pointer (some ⟨p0, 0, none⟩), .agg (kvV ⟨k, v⟩).toArray] [nodeA d0 p0 t0]
 fun r L => r = .bool (!hasL (flat d0 t0) k) ∧ L = [nodeX m0 d0 p0 (putL (flat d0 t0) k v)] := by
 refine Does.of Tryz.func102 rfl Tryz.ntmps102 rfl rfl fun F => ?_
 refine J.norm ?_
 refine Sr ?_
 refine L_o rfl rfl rfl (O_box rfl fun b3 => ?_)
 refine Lq (Q_assign rfl) ?_
 refine Ln ?_
 refine J_block ?_
 refine J_loop (fun i : It => wf i.m i.d i.t ∧ (tks i.d i.t).length ≤ 6 ∧ Up (flat i.d i.t) ∧ hasL (flat i.d i.t) k = hasL (flat d0 t0) k ∧ Ent [nodeX i.m i.d i.p (putL (flat i.d i.t) k v), i.G] [nodeX m0 d0 p0 (putL (flat d0 t0) k v), F])
  (fun i => [(0, .pointer (some ⟨i.p, 0, none⟩)), (3, .pointer (some ⟨b3, 0, none⟩))]) (fun i => [nodeA i.d i.p i.t, cel b3 (kvV ⟨k, v⟩) 111, i.G]) (fun i => i.d) ⟨d0, p0, m0, t0, F⟩ ⟨hw0, h60, hu0, rfl, Ent.refl _⟩ ⟨rfl, rfl, trivial⟩ (Ent.re [1,0,2] rfl) ?_
 rintro ⟨d, p, m, t, G⟩ ⟨hw, h6, hu, hh, hcl⟩
 dsimp only at hw h6 hu hh hcl ⊢
 have hku := ks_up hw hu
 have hk7 := (wf_ks hw).2
 cases d with
 | zero =>
  refine J.leaf fun S R => ?_
  have hpl := pos_le (tks 0 t) k
  cases hb : hasL (tks 0 t) k with
  | true =>
   have hb' : hasL (flat 0 t) k = true := hb
   rw [hb'] at hh
   rw [← hh]
   obtain ⟨K1, K2, u, hK, hp⟩ := hit_split hku hb
   have hf := find_ok E p S R (tks 0 t) k (by omega) hku
   rw [hb] at hf
   generalize hks : tks 0 t = K at *
   generalize posK K k = i at *
   subst hK
   have hlt : i < (K1 ++ (⟨k, u⟩ : Kv) :: K2).length := by rw [← hp]; simp
   have hgi := get_mid (x := (⟨k, u⟩ : Kv)) (Y := K2) hp hlt
   have hset := set_mid (x := (⟨k, u⟩ : Kv)) (y := (⟨k, v⟩ : Kv)) (Y := K2) hp
   refine J_block ?_
   refine Sr ?_
   refine Lq (Q_move rfl) ?_
   refine Lq (Q_fa0 rfl) ?_
   refine Lq (Q_ld 3 rfl rfl rfl rfl) ?_
   refine L_o rfl rfl rfl (O_call [0,1] [2,3,4] hf rfl rfl ?_)
   rintro _ _ ⟨rfl, rfl⟩
   refine JL.norm ?_
   refine Lq (Q_move rfl) ?_
   refine Lq (Q_extract (v := .int .i64 (i : Int)) rfl rfl) ?_
   refine Lq (Q_extract (v := .bool true) rfl rfl) ?_
   refine Lq (Q_assign rfl) ?_
   refine Lq (Q_assign rfl) ?_
   refine Ln ?_
   refine J_seq ?_
   refine Sr ?_
   refine Lq (Q_move rfl) ?_
   refine Ln ?_
   refine J_condT rfl ?_
   refine J_seq ?_
   refine DH [0,3,1] [0,1,2,3,4,5,6,7,8] (.quiet 0 (.quiet 1 (.quiet 2 (.quiet 3 (.quiet 4 (.quiet 5 (.quiet 6 (.quiet 7 (.quiet 8 (.loud 9 .done)))))))))) Tryz.mixed ?_
   refine Sq (Ent.re [0,3,1] rfl) rfl (Q_move rfl) ?_
   refine Sq (Ent.re [0,3,1] rfl) rfl (Q_nilCheck rfl) ?_
   refine Sq (Ent.re [0,3,1] rfl) rfl (Q_fa0 rfl) ?_
   refine Sq (Ent.re [0,3,1] rfl) rfl (Q_ld 0 rfl rfl rfl rfl) ?_
   refine Sq (Ent.re [0,3,1] rfl) rfl (Q_move rfl) ?_
   refine Sq (Ent.re [0,3,1] rfl) rfl (Q_fa0 rfl) ?_
   refine Sq (Ent.re [0,3,1] rfl) rfl (Q_ld 1 rfl rfl rfl rfl) ?_
   refine Sq (Ent.re [0,3,1] rfl) rfl (Q_ixAt 2 i rfl rfl rfl rfl hlt rfl) ?_
   refine Sq (Ent.re [0,3,1] rfl) rfl (Q_pfa rfl) ?_
   refine S_s rfl rfl rfl (O_stE 1 i 1 ⟨k, v⟩ rfl rfl rfl rfl rfl rfl (by simp [Value.oneCell', Value.cells]) hlt (Nat.le_refl 2) (by rw [hgi]; rfl) ⟨[], free_no (by kernel_rfl), ?_⟩)
   refine JS.norm ?_
   refine S_nil ?_
   refine seqQ_normal ?_
   refine J_seq ?_
   rw [hset]
   refine J_region ?_
   refine Lq (Q_assign rfl) ?_
   refine Ln ?_
   refine J_ret ?_
   refine seqQ_ret ?_
   refine blockQ_ret ?_
   refine loopQ_ret ?_
   refine blockQ_ret ?_
   have hw2 : m ≤ (K1 ++ (⟨k, u⟩ : Kv) :: K2).length ∧ (K1 ++ (⟨k, u⟩ : Kv) :: K2).length ≤ 7 := by rw [← hks]; exact hw
   obtain ⟨m1, m2, _, _⟩ := up_mid hku
   have hfl : flat 0 (K1 ++ (⟨k, v⟩ : Kv) :: K2 : List Kv) = putL (flat 0 t) k v := by
    show K1 ++ (⟨k, v⟩ : Kv) :: K2 = putL (tks 0 t) k v
    rw [hks]; exact (put_hit m1 m2 u v).symm
   exact retQ_ret _ [nodeX m0 d0 p0 (putL (flat d0 t0) k v)] (.cons (RV_tmp rfl) .nil) ⟨rfl, rfl⟩ ((Ent.re [0,1,2,4] rfl).trans ((Ent.leafA (t := (K1 ++ (⟨k, v⟩ : Kv) :: K2 : List Kv))).trans ((Ent.mkX (show wf m 0 (K1 ++ (⟨k, v⟩ : Kv) :: K2 : List Kv) from ⟨by simpa using hw2.1, by simpa using hw2.2⟩) hfl).trans hcl)))
  | false =>
   have hb' : hasL (flat 0 t) k = false := hb
   rw [hb'] at hh
   rw [← hh]
   obtain ⟨K1, K2, hK, hp, hk1, hk2⟩ := miss_split hku hb
   have hf := find_ok E p S R (tks 0 t) k (by omega) hku
   rw [hb] at hf
   generalize hks : tks 0 t = K at *
   generalize posK K k = i at *
   subst hK
   have hins := ins_mid (Y := K2) (⟨k, v⟩ : Kv) hp
   have hlen : (K1 ++ K2).length = K1.length + K2.length := by simp
   refine J_block ?_
   refine Sr ?_
   refine Lq (Q_move rfl) ?_
   refine Lq (Q_fa0 rfl) ?_
   refine Lq (Q_ld 3 rfl rfl rfl rfl) ?_
   refine L_o rfl rfl rfl (O_call [0,1] [2,3,4] hf rfl rfl ?_)
   rintro _ _ ⟨rfl, rfl⟩
   refine JL.norm ?_
   refine Lq (Q_move rfl) ?_
   refine Lq (Q_extract (v := .int .i64 (i : Int)) rfl rfl) ?_
   refine Lq (Q_extract (v := .bool false) rfl rfl) ?_
   refine Lq (Q_assign rfl) ?_
   refine Lq (Q_assign rfl) ?_
   refine Ln ?_
   refine J_seq ?_
   refine Sr ?_
   refine Lq (Q_move rfl) ?_
   refine Ln ?_
   refine J_condF rfl ?_
   refine J_skip ?_
   refine seqQ_normal ?_
   refine J_seq ?_
   refine Sr ?_
   refine Lq (Q_move rfl) ?_
   refine L_o rfl rfl rfl (O_call [0,2] [1,3,4] (leaf_ok E p S R []) rfl rfl ?_)
   rintro _ _ ⟨rfl, rfl⟩
   refine JL.norm ?_
   refine Ln ?_
   refine J_condT rfl ?_
   refine J_seq ?_
   refine DH [0,3] [0,1,2,3,4,5,6,9,10] (.quiet 0 (.quiet 1 (.quiet 2 (.quiet 3 (.quiet 4 (.quiet 5 (.quiet 6 (.loud 7 (.loud 8 (.quiet 9 (.quiet 10 (.loud 11 .done)))))))))))) Tryz.mixed ?_
   refine Sq (Ent.re [0,3] rfl) rfl (Q_move rfl) ?_
   refine Sq (Ent.re [0,3] rfl) rfl (Q_move rfl) ?_
   refine Sq (Ent.re [0,3] rfl) rfl (Q_nilCheck rfl) ?_
   refine Sq (Ent.re [0,3] rfl) rfl (Q_fa0 rfl) ?_
   refine Sq (Ent.re [0,3] rfl) rfl (Q_ld 0 rfl rfl rfl rfl) ?_
   refine Sq (Ent.re [0,3] rfl) rfl (Q_move rfl) ?_
   refine Sq (Ent.re [0,3] rfl) rfl (Q_ldA 1 rfl rfl rfl) ?_
   refine S_o rfl rfl rfl rfl (O_litN (τ := tKv) (m := 1) (sz := 2) [⟨k, v⟩] rfl rfl rfl rfl rfl rfl (by decide) (by decide) (fun U => ⟨_, fun _ => ⟨Ent.reN [1,4] rfl, Ent.refl _⟩, ?_⟩))
   refine JS.norm ?_
   refine S_o rfl rfl rfl rfl (O_call [3,0] [1,2,4,5] (kvins_ok E S U (K1 ++ K2) ⟨k, v⟩ i hpl (by omega)) rfl rfl ?_)
   (rintro _ _ ⟨S2, rfl, rfl⟩; refine ⟨_, fun _ => ⟨Ent.reN [1,3] rfl, Ent.refl _⟩, ?_⟩)
   refine JS.norm ?_
   refine Sq (Ent.re [1,3] rfl) rfl (Q_nilCheck rfl) ?_
   refine Sq (Ent.re [1,3] rfl) rfl (Q_fa0 rfl) ?_
   refine S_s rfl rfl rfl (O_st1 1 rfl rfl rfl rfl rfl ⟨[], free_no (by kernel_rfl), ?_⟩)
   refine JS.norm ?_
   refine S_nil ?_
   refine seqQ_normal ?_
   refine J_seq ?_
   rw [hins]
   refine J_region ?_
   refine Lq (Q_assign rfl) ?_
   refine Ln ?_
   refine J_ret ?_
   refine seqQ_ret ?_
   refine blockQ_ret ?_
   refine loopQ_ret ?_
   refine blockQ_ret ?_
   have hw2 : m ≤ (K1 ++ K2).length ∧ (K1 ++ K2).length ≤ 7 := by rw [← hks]; exact hw
   have hfl : flat 0 (K1 ++ (⟨k, v⟩ : Kv) :: K2 : List Kv) = putL (flat 0 t) k v := by
    show K1 ++ (⟨k, v⟩ : Kv) :: K2 = putL (tks 0 t) k v
    rw [hks]; exact (put_miss hk1 hk2 v).symm
   exact retQ_ret _ [nodeX m0 d0 p0 (putL (flat d0 t0) k v)] (.cons (RV_tmp rfl) .nil) ⟨rfl, rfl⟩ ((Ent.re [1,0,2,4] rfl).trans ((Ent.leafA (t := (K1 ++ (⟨k, v⟩ : Kv) :: K2 : List Kv))).trans ((Ent.mkX (show wf m 0 (K1 ++ (⟨k, v⟩ : Kv) :: K2 : List Kv) from ⟨by simp; omega, by simp; omega⟩) hfl).trans hcl)))
 | succ d =>
  obtain ⟨Kt, C⟩ := t
  refine J.inner fun S R es hes => ?_
  dsimp only at hes ⊢
  have h6 : Kt.length ≤ 6 := h6
  have hku : Up Kt := hku
  obtain ⟨hwm, hw7, hwC, hwc⟩ := hw
  dsimp only at hwm hw7 hwC hwc
  have hpl := pos_le Kt k
  have hel : es.length = Kt.length + 1 := by rw [← hwC, ← hes, List.length_map]
  cases hb : hasL Kt k with
  | true =>
   obtain ⟨K1, K2, u, hK, hp⟩ := hit_split hku hb
   have hf := find_ok E p S R Kt k (by omega) hku
   rw [hb] at hf
   generalize posK Kt k = i at *
   subst hK
   have hlt : i < (K1 ++ (⟨k, u⟩ : Kv) :: K2).length := by rw [← hp]; simp
   have hgi := get_mid (x := (⟨k, u⟩ : Kv)) (Y := K2) hp hlt
   have hset := set_mid (x := (⟨k, u⟩ : Kv)) (y := (⟨k, v⟩ : Kv)) (Y := K2) hp
   obtain ⟨hfl, hhs⟩ := inner_hit (v := v) (by simp at hwC; omega) hu
   rw [hhs] at hh
   rw [← hh]
   refine J_block ?_
   refine Sr ?_
   refine Lq (Q_move rfl) ?_
   refine Lq (Q_fa0 rfl) ?_
   refine Lq (Q_ld 4 rfl rfl rfl rfl) ?_
   refine L_o rfl rfl rfl (O_call [0,1] [2,3,4,5] hf rfl rfl ?_)
   rintro _ _ ⟨rfl, rfl⟩
   refine JL.norm ?_
   refine Lq (Q_move rfl) ?_
   refine Lq (Q_extract (v := .int .i64 (i : Int)) rfl rfl) ?_
   refine Lq (Q_extract (v := .bool true) rfl rfl) ?_
   refine Lq (Q_assign rfl) ?_
   refine Lq (Q_assign rfl) ?_
   refine Ln ?_
   refine J_seq ?_
   refine Sr ?_
   refine Lq (Q_move rfl) ?_
   refine Ln ?_
   refine J_condT rfl ?_
   refine J_seq ?_
   refine DH [0,4,1] [0,1,2,3,4,5,6,7,8] (.quiet 0 (.quiet 1 (.quiet 2 (.quiet 3 (.quiet 4 (.quiet 5 (.quiet 6 (.quiet 7 (.quiet 8 (.loud 9 .done)))))))))) Tryz.mixed ?_
   refine Sq (Ent.re [0,4,1] rfl) rfl (Q_move rfl) ?_
   refine Sq (Ent.re [0,4,1] rfl) rfl (Q_nilCheck rfl) ?_
   refine Sq (Ent.re [0,4,1] rfl) rfl (Q_fa0 rfl) ?_
   refine Sq (Ent.re [0,4,1] rfl) rfl (Q_ld 0 rfl rfl rfl rfl) ?_
   refine Sq (Ent.re [0,4,1] rfl) rfl (Q_move rfl) ?_
   refine Sq (Ent.re [0,4,1] rfl) rfl (Q_fa0 rfl) ?_
   refine Sq (Ent.re [0,4,1] rfl) rfl (Q_ld 1 rfl rfl rfl rfl) ?_
   refine Sq (Ent.re [0,4,1] rfl) rfl (Q_ixAt 2 i rfl rfl rfl rfl hlt rfl) ?_
   refine Sq (Ent.re [0,4,1] rfl) rfl (Q_pfa rfl) ?_
   refine S_s rfl rfl rfl (O_stE 1 i 1 ⟨k, v⟩ rfl rfl rfl rfl rfl rfl (by simp [Value.oneCell', Value.cells]) hlt (Nat.le_refl 2) (by rw [hgi]; rfl) ⟨[], free_no (by kernel_rfl), ?_⟩)
   refine JS.norm ?_
   refine S_nil ?_
   refine seqQ_normal ?_
   refine J_seq ?_
   rw [hset]
   refine J_region ?_
   refine Lq (Q_assign rfl) ?_
   refine Ln ?_
   refine J_ret ?_
   refine seqQ_ret ?_
   refine blockQ_ret ?_
   refine loopQ_ret ?_
   refine blockQ_ret ?_
   exact retQ_ret _ [nodeX m0 d0 p0 (putL (flat d0 t0) k v)] (.cons (RV_tmp rfl) .nil) ⟨rfl, rfl⟩ ((Ent.re [0,1,2,3,5] rfl).trans ((Ent.innerA hes).trans ((Ent.mkX (show wf m (d + 1) (K1 ++ (⟨k, v⟩ : Kv) :: K2, C) from ⟨by simpa using hwm, by simpa using hw7, by simpa using hwC, hwc⟩) hfl).trans hcl)))
  | false =>
   obtain ⟨K1, K2, hK, hp, hk1, hk2⟩ := miss_split hku hb
   have hf := find_ok E p S R Kt k (by omega) hku
   rw [hb] at hf
   generalize posK Kt k = i at *
   subst hK
   have hlen : (K1 ++ K2).length = K1.length + K2.length := by simp
   obtain ⟨A, e, B, rfl, hAi⟩ := split_at (l := es) (i := i) (by omega)
   subst hAi
   have hel2 : (A ++ e :: B).length = A.length + B.length + 1 := by simp; omega
   have hBl : K2.length = B.length := by omega
   subst hes
   have hwe : wf 3 d e.2 := hwc e.2 (by simp)
   have hwAB : ∀ x ∈ A ++ B, wf 3 d x.2 := fun x hx => hwc x.2 (by
    rcases List.mem_append.1 hx with hx | hx
    ·simp only [List.map_append, List.mem_append]; exact .inl (List.mem_map_of_mem hx)
    ·simp only [List.map_append, List.map_cons, List.mem_append, List.mem_cons]; exact .inr (.inr (List.mem_map_of_mem hx)))
   simp only [List.map_append, List.map_cons] at hu hh hcl hwC
   obtain ⟨n1, n2, n3, n4, _, n6, _⟩ := inner_miss (by simpa using hp) hu hk1 hk2
   have hPlt : A.length < (pL (A ++ e :: B)).length := by rw [pL_len]; simp
   have hPg : (pL (A ++ e :: B))[A.length] = some e.1 := mid_get _ A B e hPlt
   have hlf := leaf_ok E p S R (pL (A ++ e :: B))
   rw [show decide (((pL (A ++ e :: B)).length : Int) = 0) = false from decide_eq_false (by rw [pL_len]; simp; omega)] at hlf
   refine J_block ?_
   refine Sr ?_
   refine Lq (Q_move rfl) ?_
   refine Lq (Q_fa0 rfl) ?_
   refine Lq (Q_ld 4 rfl rfl rfl rfl) ?_
   refine L_o rfl rfl rfl (O_call [0,1] [2,3,4,5] hf rfl rfl ?_)
   rintro _ _ ⟨rfl, rfl⟩
   refine JL.norm ?_
   refine Lq (Q_move rfl) ?_
   refine Lq (Q_extract (v := .int .i64 (A.length : Int)) rfl rfl) ?_
   refine Lq (Q_extract (v := .bool false) rfl rfl) ?_
   refine Lq (Q_assign rfl) ?_
   refine Lq (Q_assign rfl) ?_
   refine Ln ?_
   refine J_seq ?_
   refine Sr ?_
   refine Lq (Q_move rfl) ?_
   refine Ln ?_
   refine J_condF rfl ?_
   refine J_skip ?_
   refine seqQ_normal ?_
   refine J_seq ?_
   refine Sr ?_
   refine Lq (Q_move rfl) ?_
   refine L_o rfl rfl rfl (O_call [0,2] [1,3,4,5] hlf rfl rfl ?_)
   rintro _ _ ⟨rfl, rfl⟩
   refine JL.norm ?_
   refine Ln ?_
   refine J_condF rfl ?_
   refine J_skip ?_
   refine seqQ_normal ?_
   refine J_seq ?_
   refine J_seq ?_
   refine J.ent ((Ent.re [3,0,1,2,4,5] rfl).trans (Ent.mid_out (ndE d) A e B)) ?_
   refine J.peek fun Sc Rc X hX => ?_
   have hclose : Ent (ndC e.1 Sc Rc :: slc tKv true Sc (tks d e.2) :: X :: stars ((A ++ B).map (ndE d)) :: ndC p S R :: slc tNd true R (pL (A ++ e :: B)) :: slc tKv true S (K1 ++ K2) :: cel b3 (kvV ⟨k, v⟩) 111 :: G :: []) [ndC p S R, slc tKv true S (K1 ++ K2), slc tNd true R (pL (A ++ e :: B)), stars ((A ++ e :: B).map (ndE d)), cel b3 (kvV ⟨k, v⟩) 111, G] := ((hX _).trans (Ent.mid_in (ndE d) A e B)).trans (Ent.re [1,3,2,0,4,5] rfl)
   by_cases h7 : (tks d e.2).length = 7
   ·skip
    refine J_region ?_
    refine Lq (Q_move rfl) ?_
    refine Lq (Q_nilCheck rfl) ?_
    refine Lq (Q_fa0 rfl) ?_
    refine Lq (Q_ld 4 rfl rfl rfl rfl) ?_
    refine Lq (Q_move rfl) ?_
    refine Lq (Q_ixAt 5 A.length rfl rfl rfl rfl hPlt rfl) ?_
    refine Lq (Q_ldEAt 5 A.length 0 (v := .pointer (some ⟨e.1, 0, none⟩)) rfl rfl rfl rfl hPlt (by decide) (by rw [hPg]; rfl)) ?_
    refine Lq (Q_nilCheck rfl) ?_
    refine Lq (Q_fa0 rfl) ?_
    refine Lq (Q_ld 0 rfl rfl rfl rfl) ?_
    refine Lq (Q_lenAt 1 rfl rfl) ?_
    refine Lq ((Q_eql rfl rfl).as (v' := .bool true) (congrArg Value.bool (decide_eq_true (by omega)))) ?_
    refine Ln ?_
    refine J_condT rfl ?_
    refine J_seq ?_
    refine J.ent hclose ?_
    obtain ⟨g1, g2, g3, g4, g5⟩ := spL_ok hwe h7
    refine J_region ?_
    refine Lq (Q_move rfl) ?_
    refine Lq (Q_move rfl) ?_
    refine L_o rfl rfl rfl (O_call [0,1,2,3] [4,5] (split_ok E d p S R K1 K2 A B e hp h7 hwe (by omega) (by omega)) rfl rfl ?_)
    rintro _ _ ⟨rfl, S2, R2, q, rfl⟩
    refine JL.norm ?_
    refine Ln ?_
    refine J_seq ?_
    generalize (tks d e.2)[3] = mid at *
    generalize (spL d e.2).1 = c1 at *
    generalize (spL d e.2).2 = c2 at *
    have hflat : flat (d + 1) (K1 ++ K2, A.map (·.2) ++ e.2 :: B.map (·.2)) = flat (d + 1) (K1 ++ mid :: K2, A.map (·.2) ++ c1 :: c2 :: B.map (·.2)) := by
     rw [flat_at K1 K2 _ _ e.2 (by simpa using hp), flat_2 K1 K2 mid _ _ c1 c2 (by simpa using hp), g1]
    rw [hflat] at hu hh hcl
    have hlt : A.length < (K1 ++ mid :: K2).length := by simp; omega
    have hgi := get_mid (x := mid) (Y := K2) hp hlt
    have hcm := compare_ok E mid.key k
    have hw3 : ∀ x ∈ A ++ (e.1, c1) :: (q, c2) :: B, wf 3 d x.2 := fun x hx => by
     rcases List.mem_append.1 hx with hx | hx
     ·exact hwAB x (by simp [hx])
     ·rcases List.mem_cons.1 hx with rfl | hx
      ·exact g2
      ·rcases List.mem_cons.1 hx with rfl | hx
       ·exact g3
       ·exact hwAB x (by simp [hx])
    rcases kl_tri mid.key k with hk | hk | hk
    ·rw [cmp_kl, if_pos hk] at hcm
     refine DH [0,1,4] [0,1,2,3,4,5,6,7,8,9,11] (.quiet 0 (.quiet 1 (.quiet 2 (.quiet 3 (.quiet 4 (.quiet 5 (.quiet 6 (.quiet 7 (.quiet 8 (.quiet 9 (.loud 10 (.quiet 11 .done)))))))))))) Tryz.mixed ?_
     refine Sq (Ent.re [0,1,4] rfl) rfl (Q_move rfl) ?_
     refine Sq (Ent.re [0,1,4] rfl) rfl (Q_nilCheck rfl) ?_
     refine Sq (Ent.re [0,1,4] rfl) rfl (Q_fa0 rfl) ?_
     refine Sq (Ent.re [0,1,4] rfl) rfl (Q_ld 0 rfl rfl rfl rfl) ?_
     refine Sq (Ent.re [0,1,4] rfl) rfl (Q_move rfl) ?_
     refine Sq (Ent.re [0,1,4] rfl) rfl (Q_ixAt 1 A.length rfl rfl rfl rfl hlt rfl) ?_
     refine Sq (Ent.re [0,1,4] rfl) rfl (Q_pfa rfl) ?_
     refine Sq (Ent.re [0,1,4] rfl) rfl (Q_ldEAt 1 A.length 0 (v := str mid.key) rfl rfl rfl rfl hlt (by decide) (by rw [hgi]; rfl)) ?_
     refine Sq (Ent.re [0,1,4] rfl) rfl (Q_fa0 rfl) ?_
     refine Sq (Ent.re [0,1,4] rfl) rfl (Q_ld 2 rfl rfl rfl rfl) ?_
     refine S_o rfl rfl rfl rfl (O_call [] [0,1,2,3,4,5] hcm rfl rfl ?_)
     (rintro _ _ ⟨rfl, rfl⟩; refine ⟨_, fun _ => ⟨Ent.reN [0,1,4] rfl, Ent.refl _⟩, ?_⟩)
     refine JS.norm ?_
     refine Sq (Ent.re [0,1,4] rfl) rfl (Q_assign rfl) ?_
     refine S_nil ?_
     refine seqQ_normal ?_
     refine J_block ?_
     refine Sr ?_
     refine Lq (Q_move rfl) ?_
     refine Lq ((Q_eql rfl rfl).as (v' := .bool false) rfl) ?_
     refine Lq (Q_assign rfl) ?_
     refine Ln ?_
     refine J_condF rfl ?_
     refine Sr ?_
     refine Lq (Q_move rfl) ?_
     refine Lq ((Q_lss rfl rfl).as (v' := .bool true) rfl) ?_
     refine Lq (Q_assign rfl) ?_
     refine Ln ?_
     refine J_condT rfl ?_
     refine J_region ?_
     refine Lq (Q_move rfl) ?_
     refine Lq (Q_add rfl rfl (by first | exact IntWalk.i64_in _ (by omega) | exact IntWalk.u8_in _ (by omega) | exact IntWalk.u32_in _ (by omega) | exact IntWalk.u64_in _ (by omega) | rfl)) ?_
     refine Lq (Q_assign rfl) ?_
     refine JL_nil ?_
     refine blockQ_normal ?_
     refine seqQ_normal ?_
     have eK : K1 ++ mid :: K2 = (K1 ++ [mid]) ++ K2 := by simp
     have eA : A ++ (e.1, c1) :: (q, c2) :: B = (A ++ [(e.1, c1)]) ++ (q, c2) :: B := by simp
     have eC : A.map (·.2) ++ c1 :: c2 :: B.map (·.2) = (A ++ [(e.1, c1)]).map (·.2) ++ c2 :: B.map (·.2) := by simp
     rw [eK, eC] at hu hh hcl
     rw [eK, eA]
     rw [eA] at hw3
     have hp2 : (K1 ++ [mid]).length = (A ++ [(e.1, c1)]).length := by simp [hp]
     obtain ⟨n1, n2, n3, n4, _, n6, _⟩ := inner_miss (by simpa using hp2) hu (fun x hx => by
      rcases List.mem_append.1 hx with hx | hx
      ·exact hk1 x hx
      ·rw [List.mem_singleton] at hx; rw [hx]; exact hk) hk2
     have hPlt2 : A.length + 1 < (pL ((A ++ [(e.1, c1)]) ++ (q, c2) :: B)).length := by rw [pL_len]; simp
     have hPg2 : (pL ((A ++ [(e.1, c1)]) ++ (q, c2) :: B))[A.length + 1] = some q := by
      have h := mid_get (fun x : Nat × T d => some x.1) (A ++ [(e.1, c1)]) B (q, c2) (by simp)
      simp only [List.length_append, List.length_singleton] at h
      exact h
     refine J_region ?_
     refine Lq (Q_move rfl) ?_
     refine Lq (Q_nilCheck rfl) ?_
     refine Lq (Q_fa0 rfl) ?_
     refine Lq (Q_ld 0 rfl rfl rfl rfl) ?_
     refine Lq (Q_move rfl) ?_
     refine Lq (Q_ixAt 2 (A.length + 1) rfl rfl rfl rfl hPlt2 rfl) ?_
     refine Lq (Q_ldEAt 2 (A.length + 1) 0 (v := .pointer (some ⟨q, 0, none⟩)) rfl rfl rfl rfl hPlt2 (by decide) (by rw [hPg2]; rfl)) ?_
     refine Lq (Q_assign rfl) ?_
     refine JL_nil ?_
     refine blockQ_normal ?_
     refine loopQ_normal ⟨d, q, 3, c2, stars (parL p S2 R2 ((K1 ++ [mid]) ++ K2) (pL (A ++ [(e.1, c1)]) ++ some q :: pL B) ((A ++ [(e.1, c1)]) ++ B) G)⟩ ⟨g3, by show (tks d c2).length ≤ 6; omega, n1, by rw [← n6]; exact hh, (plugX hp2 hBl (by simp; omega) (by simp; omega) (fun x hx => hw3 x (by
      rcases List.mem_append.1 hx with hx | hx
      ·exact List.mem_append_left _ hx
      ·exact List.mem_append_right _ (List.mem_cons_of_mem _ hx))) (n4 v)).trans hcl⟩ (Nat.lt_succ_self d) ⟨rfl, rfl, trivial⟩ Ent.down
    ·rw [cmp_kl, hk, kl_irr, if_neg (by simp), if_neg (by simp)] at hcm
     obtain ⟨mk, mv⟩ := mid
     dsimp only at hk
     subst hk
     have hset := set_mid (x := (⟨mk, mv⟩ : Kv)) (y := (⟨mk, v⟩ : Kv)) (Y := K2) hp
     obtain ⟨hfl, hhs⟩ := inner_hit (v := v) (by simp; omega) hu
     rw [hhs] at hh
     rw [← hh]
     refine DH [0,1,4] [0,1,2,3,4,5,6,7,8,9,11] (.quiet 0 (.quiet 1 (.quiet 2 (.quiet 3 (.quiet 4 (.quiet 5 (.quiet 6 (.quiet 7 (.quiet 8 (.quiet 9 (.loud 10 (.quiet 11 .done)))))))))))) Tryz.mixed ?_
     refine Sq (Ent.re [0,1,4] rfl) rfl (Q_move rfl) ?_
     refine Sq (Ent.re [0,1,4] rfl) rfl (Q_nilCheck rfl) ?_
     refine Sq (Ent.re [0,1,4] rfl) rfl (Q_fa0 rfl) ?_
     refine Sq (Ent.re [0,1,4] rfl) rfl (Q_ld 0 rfl rfl rfl rfl) ?_
     refine Sq (Ent.re [0,1,4] rfl) rfl (Q_move rfl) ?_
     refine Sq (Ent.re [0,1,4] rfl) rfl (Q_ixAt 1 A.length rfl rfl rfl rfl hlt rfl) ?_
     refine Sq (Ent.re [0,1,4] rfl) rfl (Q_pfa rfl) ?_
     refine Sq (Ent.re [0,1,4] rfl) rfl (Q_ldEAt 1 A.length 0 (v := str mk) rfl rfl rfl rfl hlt (by decide) (by rw [hgi]; rfl)) ?_
     refine Sq (Ent.re [0,1,4] rfl) rfl (Q_fa0 rfl) ?_
     refine Sq (Ent.re [0,1,4] rfl) rfl (Q_ld 2 rfl rfl rfl rfl) ?_
     refine S_o rfl rfl rfl rfl (O_call [] [0,1,2,3,4,5] hcm rfl rfl ?_)
     (rintro _ _ ⟨rfl, rfl⟩; refine ⟨_, fun _ => ⟨Ent.reN [0,1,4] rfl, Ent.refl _⟩, ?_⟩)
     refine JS.norm ?_
     refine Sq (Ent.re [0,1,4] rfl) rfl (Q_assign rfl) ?_
     refine S_nil ?_
     refine seqQ_normal ?_
     refine J_block ?_
     refine Sr ?_
     refine Lq (Q_move rfl) ?_
     refine Lq ((Q_eql rfl rfl).as (v' := .bool true) rfl) ?_
     refine Lq (Q_assign rfl) ?_
     refine Ln ?_
     refine J_condT rfl ?_
     refine J_seq ?_
     refine DH [0,4,1] [0,1,2,3,4,5,6,7,8] (.quiet 0 (.quiet 1 (.quiet 2 (.quiet 3 (.quiet 4 (.quiet 5 (.quiet 6 (.quiet 7 (.quiet 8 (.loud 9 .done)))))))))) Tryz.mixed ?_
     refine Sq (Ent.re [0,4,1] rfl) rfl (Q_move rfl) ?_
     refine Sq (Ent.re [0,4,1] rfl) rfl (Q_nilCheck rfl) ?_
     refine Sq (Ent.re [0,4,1] rfl) rfl (Q_fa0 rfl) ?_
     refine Sq (Ent.re [0,4,1] rfl) rfl (Q_ld 0 rfl rfl rfl rfl) ?_
     refine Sq (Ent.re [0,4,1] rfl) rfl (Q_move rfl) ?_
     refine Sq (Ent.re [0,4,1] rfl) rfl (Q_fa0 rfl) ?_
     refine Sq (Ent.re [0,4,1] rfl) rfl (Q_ld 1 rfl rfl rfl rfl) ?_
     refine Sq (Ent.re [0,4,1] rfl) rfl (Q_ixAt 2 A.length rfl rfl rfl rfl hlt rfl) ?_
     refine Sq (Ent.re [0,4,1] rfl) rfl (Q_pfa rfl) ?_
     refine S_s rfl rfl rfl (O_stE 1 A.length 1 ⟨mk, v⟩ rfl rfl rfl rfl rfl rfl (by simp [Value.oneCell', Value.cells]) hlt (Nat.le_refl 2) (by rw [hgi]; rfl) ⟨[], free_no (by kernel_rfl), ?_⟩)
     refine JS.norm ?_
     refine S_nil ?_
     refine seqQ_normal ?_
     refine J_seq ?_
     rw [hset]
     refine J_region ?_
     refine Lq (Q_assign rfl) ?_
     refine Ln ?_
     refine J_ret ?_
     refine blockQ_ret ?_
     refine seqQ_ret ?_
     refine blockQ_ret ?_
     refine loopQ_ret ?_
     refine blockQ_ret ?_
     exact retQ_ret _ [nodeX m0 d0 p0 (putL (flat d0 t0) mk v)] (.cons (RV_tmp rfl) .nil) ⟨rfl, rfl⟩ ((Ent.re [0,1,2,3,5] rfl).trans ((Ent.innerA (es := A ++ (e.1, c1) :: (q, c2) :: B) (C := A.map (·.2) ++ c1 :: c2 :: B.map (·.2)) (by simp)).trans ((Ent.mkX (show wf m (d + 1) (K1 ++ (⟨mk, v⟩ : Kv) :: K2, A.map (·.2) ++ c1 :: c2 :: B.map (·.2)) from ⟨by simp; omega, by simp; omega, by simp; omega, fun c hc => by
      have hc2 : c ∈ (A ++ (e.1, c1) :: (q, c2) :: B).map (·.2) := by simpa using hc
      obtain ⟨x, hx, rfl⟩ := List.mem_map.1 hc2
      exact hw3 x hx⟩) hfl).trans hcl)))
    ·rw [cmp_kl, kl_asymm hk, if_neg (by simp), if_pos hk] at hcm
     refine DH [0,1,4] [0,1,2,3,4,5,6,7,8,9,11] (.quiet 0 (.quiet 1 (.quiet 2 (.quiet 3 (.quiet 4 (.quiet 5 (.quiet 6 (.quiet 7 (.quiet 8 (.quiet 9 (.loud 10 (.quiet 11 .done)))))))))))) Tryz.mixed ?_
     refine Sq (Ent.re [0,1,4] rfl) rfl (Q_move rfl) ?_
     refine Sq (Ent.re [0,1,4] rfl) rfl (Q_nilCheck rfl) ?_
     refine Sq (Ent.re [0,1,4] rfl) rfl (Q_fa0 rfl) ?_
     refine Sq (Ent.re [0,1,4] rfl) rfl (Q_ld 0 rfl rfl rfl rfl) ?_
     refine Sq (Ent.re [0,1,4] rfl) rfl (Q_move rfl) ?_
     refine Sq (Ent.re [0,1,4] rfl) rfl (Q_ixAt 1 A.length rfl rfl rfl rfl hlt rfl) ?_
     refine Sq (Ent.re [0,1,4] rfl) rfl (Q_pfa rfl) ?_
     refine Sq (Ent.re [0,1,4] rfl) rfl (Q_ldEAt 1 A.length 0 (v := str mid.key) rfl rfl rfl rfl hlt (by decide) (by rw [hgi]; rfl)) ?_
     refine Sq (Ent.re [0,1,4] rfl) rfl (Q_fa0 rfl) ?_
     refine Sq (Ent.re [0,1,4] rfl) rfl (Q_ld 2 rfl rfl rfl rfl) ?_
     refine S_o rfl rfl rfl rfl (O_call [] [0,1,2,3,4,5] hcm rfl rfl ?_)
     (rintro _ _ ⟨rfl, rfl⟩; refine ⟨_, fun _ => ⟨Ent.reN [0,1,4] rfl, Ent.refl _⟩, ?_⟩)
     refine JS.norm ?_
     refine Sq (Ent.re [0,1,4] rfl) rfl (Q_assign rfl) ?_
     refine S_nil ?_
     refine seqQ_normal ?_
     refine J_block ?_
     refine Sr ?_
     refine Lq (Q_move rfl) ?_
     refine Lq ((Q_eql rfl rfl).as (v' := .bool false) rfl) ?_
     refine Lq (Q_assign rfl) ?_
     refine Ln ?_
     refine J_condF rfl ?_
     refine Sr ?_
     refine Lq (Q_move rfl) ?_
     refine Lq ((Q_lss rfl rfl).as (v' := .bool false) rfl) ?_
     refine Lq (Q_assign rfl) ?_
     refine Ln ?_
     refine J_condF rfl ?_
     refine J_skip ?_
     refine blockQ_normal ?_
     refine seqQ_normal ?_
     have eC : A.map (·.2) ++ c1 :: c2 :: B.map (·.2) = A.map (·.2) ++ c1 :: ((q, c2) :: B).map (·.2) := by simp
     rw [eC] at hu hh hcl
     obtain ⟨n1, n2, n3, n4, _, n6, _⟩ := inner_miss (by simpa using hp) hu hk1 (fun x hx => by
      rcases List.mem_cons.1 hx with rfl | hx
      ·exact hk
      ·exact hk2 x hx)
     have hPlt2 : A.length < (pL (A ++ (e.1, c1) :: (q, c2) :: B)).length := by rw [pL_len]; simp
     have hPg2 : (pL (A ++ (e.1, c1) :: (q, c2) :: B))[A.length] = some e.1 := mid_get _ A ((q, c2) :: B) (e.1, c1) hPlt2
     refine J_region ?_
     refine Lq (Q_move rfl) ?_
     refine Lq (Q_nilCheck rfl) ?_
     refine Lq (Q_fa0 rfl) ?_
     refine Lq (Q_ld 0 rfl rfl rfl rfl) ?_
     refine Lq (Q_move rfl) ?_
     refine Lq (Q_ixAt 2 A.length rfl rfl rfl rfl hPlt2 rfl) ?_
     refine Lq (Q_ldEAt 2 A.length 0 (v := .pointer (some ⟨e.1, 0, none⟩)) rfl rfl rfl rfl hPlt2 (by decide) (by rw [hPg2]; rfl)) ?_
     refine Lq (Q_assign rfl) ?_
     refine JL_nil ?_
     refine blockQ_normal ?_
     refine loopQ_normal ⟨d, e.1, 3, c1, stars (parL p S2 R2 (K1 ++ mid :: K2) (pL A ++ some e.1 :: pL ((q, c2) :: B)) (A ++ (q, c2) :: B) G)⟩ ⟨g2, by show (tks d c1).length ≤ 6; omega, n1, by rw [← n6]; exact hh, (plugX hp (by simp [hBl]) (by simp; omega) (by simp; omega) (fun x hx => hw3 x (by
      rcases List.mem_append.1 hx with hx | hx
      ·exact List.mem_append_left _ hx
      ·exact List.mem_append_right _ (List.mem_cons_of_mem _ hx))) (n4 v)).trans hcl⟩ (Nat.lt_succ_self d) ⟨rfl, rfl, trivial⟩ Ent.down
   ·skip
    refine J_region ?_
    refine Lq (Q_move rfl) ?_
    refine Lq (Q_nilCheck rfl) ?_
    refine Lq (Q_fa0 rfl) ?_
    refine Lq (Q_ld 4 rfl rfl rfl rfl) ?_
    refine Lq (Q_move rfl) ?_
    refine Lq (Q_ixAt 5 A.length rfl rfl rfl rfl hPlt rfl) ?_
    refine Lq (Q_ldEAt 5 A.length 0 (v := .pointer (some ⟨e.1, 0, none⟩)) rfl rfl rfl rfl hPlt (by decide) (by rw [hPg]; rfl)) ?_
    refine Lq (Q_nilCheck rfl) ?_
    refine Lq (Q_fa0 rfl) ?_
    refine Lq (Q_ld 0 rfl rfl rfl rfl) ?_
    refine Lq (Q_lenAt 1 rfl rfl) ?_
    refine Lq ((Q_eql rfl rfl).as (v' := .bool false) (congrArg Value.bool (decide_eq_false (by omega)))) ?_
    refine Ln ?_
    refine J_condF rfl ?_
    refine J_skip ?_
    refine seqQ_normal ?_
    refine J.ent hclose ?_
    refine J_region ?_
    refine Lq (Q_move rfl) ?_
    refine Lq (Q_nilCheck rfl) ?_
    refine Lq (Q_fa0 rfl) ?_
    refine Lq (Q_ld 0 rfl rfl rfl rfl) ?_
    refine Lq (Q_move rfl) ?_
    refine Lq (Q_ixAt 2 A.length rfl rfl rfl rfl hPlt rfl) ?_
    refine Lq (Q_ldEAt 2 A.length 0 (v := .pointer (some ⟨e.1, 0, none⟩)) rfl rfl rfl rfl hPlt (by decide) (by rw [hPg]; rfl)) ?_
    refine Lq (Q_assign rfl) ?_
    refine JL_nil ?_
    refine blockQ_normal ?_
    refine loopQ_normal ⟨d, e.1, 3, e.2, stars (parL p S R (K1 ++ K2) (pL A ++ some e.1 :: pL B) (A ++ B) G)⟩ ⟨hwe, by have := (wf_ks hwe).2; show (tks d e.2).length ≤ 6; omega, n1, by rw [← n6]; exact hh, (plugX hp hBl (by omega) (by omega) hwAB (n4 v)).trans hcl⟩ (Nat.lt_succ_self d) ⟨rfl, rfl, trivial⟩ Ent.down
end Go.Proofs.Bt
