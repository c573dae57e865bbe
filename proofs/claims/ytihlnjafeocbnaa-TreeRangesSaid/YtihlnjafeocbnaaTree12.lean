/- The pairs gone over, from a key on. -/
import Derived.Test.YtihlnjafeocbnaaTree11
set_option autoImplicit false
namespace Go.Proofs
open Go.SL
def rngStep (to : Ky) (many : Int) (acc : List Kv) (x : Kv) : List Kv × Bool := if (!decide (to = []) && !kl x.key to) = true then (acc, false) else (acc ++ [x], decide (((acc ++ [x]).length : Int) < many))
def runR (to : Ky) (many : Int) : List Kv → List Kv → List Kv × Bool
  | acc, [] => (acc, true)
  | acc, x :: xs => if (rngStep to many acc x).2 = true then runR to many (rngStep to many acc x).1 xs else ((rngStep to many acc x).1, false)
def flF (from' : Ky) (l : List Kv) : List Kv := l.filter fun x => !kl x.key from'
theorem rngStep_len (to : Ky) (many : Int) (acc : List Kv) (x : Kv) : (rngStep to many acc x).1.length ≤ acc.length + 1 := by
  unfold rngStep
  by_cases h : (!decide (to = []) && !kl x.key to) = true
  · rw [if_pos h]; simp
  · rw [if_neg h]; simp
theorem runR_ct {to : Ky} {many : Int} {x : Kv} {ys acc : List Kv} (h : (rngStep to many acc x).2 = true) : runR to many acc (x :: ys) = runR to many (rngStep to many acc x).1 ys := by
  rw [runR, if_pos h]
theorem runR_cf {to : Ky} {many : Int} {x : Kv} {ys acc : List Kv} (h : (rngStep to many acc x).2 = false) : runR to many acc (x :: ys) = ((rngStep to many acc x).1, false) := by
  rw [runR, if_neg (by rw [h]; simp)]
theorem runR_t {to : Ky} {many : Int} {ys : List Kv} : ∀ {xs acc : List Kv}, (runR to many acc xs).2 = true → runR to many acc (xs ++ ys) = runR to many (runR to many acc xs).1 ys
  | [], acc, _ => rfl
  | x :: xs, acc, h => by
    rw [List.cons_append]
    cases hb : (rngStep to many acc x).2 with
    | true => rw [runR_ct hb] at h; rw [runR_ct hb, runR_ct hb]; exact runR_t h
    | false => rw [runR_cf hb] at h; exact absurd h (by simp)
theorem runR_f {to : Ky} {many : Int} {ys : List Kv} : ∀ {xs acc : List Kv}, (runR to many acc xs).2 = false → runR to many acc (xs ++ ys) = ((runR to many acc xs).1, false)
  | [], acc, h => by simp [runR] at h
  | x :: xs, acc, h => by
    rw [List.cons_append]
    cases hb : (rngStep to many acc x).2 with
    | true => rw [runR_ct hb] at h; rw [runR_ct hb, runR_ct hb]; exact runR_f h
    | false => rw [runR_cf hb, runR_cf hb]
theorem runR_len (to : Ky) (many : Int) : ∀ (xs acc : List Kv), (runR to many acc xs).1.length ≤ acc.length + xs.length
  | [], acc => by simp [runR]
  | x :: xs, acc => by
    have h1 := rngStep_len to many acc x
    cases hb : (rngStep to many acc x).2 with
    | true =>
      rw [runR_ct hb]
      have := runR_len to many xs (rngStep to many acc x).1
      simp only [List.length_cons]; omega
    | false => rw [runR_cf hb]; simp only [List.length_cons]; omega
theorem flF_app (f : Ky) (a b : List Kv) : flF f (a ++ b) = flF f a ++ flF f b := List.filter_append ..
theorem flF_bel {f : Ky} {l : List Kv} (h : Bel l f) : flF f l = [] := List.filter_eq_nil_iff.2 fun x hx => by rw [h x hx]; simp
theorem flF_cons {f : Ky} {x : Kv} {l : List Kv} (h : kl x.key f = false) : flF f (x :: l) = x :: flF f l := by
  unfold flF; rw [List.filter_cons, h]; rfl
theorem flF_drop {f : Ky} {l : List Kv} (hu : Up l) : flF f l = l.drop (posK l f) := by
  have h1 : Bel (l.take (posK l f)) f := by rw [lo_take hu f]; exact lo_Bel l f
  have h2 : flF f (l.drop (posK l f)) = l.drop (posK l f) := List.filter_eq_self.2 fun x hx => by
    obtain ⟨j, hj, rfl⟩ := List.getElem_of_mem hx
    simp only [List.length_drop] at hj
    rw [List.getElem_drop, pos_ge hu (by omega) (by omega)]; rfl
  have h3 := flF_app f (l.take (posK l f)) (l.drop (posK l f))
  rw [List.take_append_drop, flF_bel h1, List.nil_append, h2] at h3
  exact h3
/-- What stands from a node's child on. -/
def restF (d : Nat) (K : List Kv) (C : List (T d)) (i : Nat) : List Kv := ileave (K.drop i) ((C.drop i).map (flat d))
theorem rest_mid {d : Nat} {K : List Kv} {A B : List (T d)} {c : T d} (hi : A.length < K.length) (hC : (A ++ c :: B).length = K.length + 1) : restF d K (A ++ c :: B) A.length = flat d c ++ K[A.length] :: restF d K (A ++ c :: B) (A.length + 1) := by
  have hB : (A ++ c :: B).drop (A.length + 1) = B := by
    have := List.drop_left (l₁ := A ++ [c]) (l₂ := B)
    simp only [List.length_append, List.length_singleton, List.append_assoc, List.singleton_append] at this
    exact this
  unfold restF
  rw [List.drop_left, List.drop_eq_getElem_cons hi, hB, List.map_cons]
  rfl
theorem rest_last {d : Nat} {K : List Kv} {A : List (T d)} {c : T d} (hi : A.length = K.length) : restF d K (A ++ [c]) A.length = flat d c ∧ restF d K (A ++ [c]) (A.length + 1) = [] := by
  unfold restF
  rw [List.drop_left, hi, List.drop_length]
  refine ⟨by simp [ileave], ?_⟩
  have : (A ++ [c]).drop (K.length + 1) = [] := List.drop_eq_nil_of_le (by simp; omega)
  rw [this]; simp [ileave]
theorem rest_pos {d : Nat} {K : List Kv} {C : List (T d)} {f : Ky} (hC : C.length = K.length + 1) (hu : Up (flat (d + 1) (K, C))) (hk : Up K) : flF f (flat (d + 1) (K, C)) = flF f (restF d K C (posK K f)) ∧ Up (restF d K C (posK K f)) ∧ (restF d K C (posK K f)).length ≤ (flat (d + 1) (K, C)).length := by
  have hp := pos_le K f
  have e : flat (d + 1) (K, C) = preI (K.take (posK K f)) ((C.take (posK K f)).map (flat d)) ++ restF d K C (posK K f) := by
    have := ileave_pre (K.take (posK K f)) (K.drop (posK K f)) ((C.take (posK K f)).map (flat d)) ((C.drop (posK K f)).map (flat d)) (by simp; omega)
    rw [List.take_append_drop, ← List.map_append, List.take_append_drop] at this
    exact this
  rw [e] at hu ⊢
  obtain ⟨u1, u2⟩ := up_app hu
  have hb := pre_bel (k := f) _ _ u1 (by rw [lo_take hk f]; exact lo_Bel K f)
  refine ⟨by rw [flF_app, flF_bel hb]; rfl, u2, by simp⟩
attribute [local irreducible] J JL QOp JOp seqQ blockQ loopQ retQ slc cel hex star pur stars Does RV Ent pAt scopeQ
attribute [local irreducible] nodeA nodeX treeA
theorem each_ok (E : World) (x : Kv) (to : Ky) (many : Int) (bt bo bm : Nat) (S : SV) (acc : List Kv) (hacc : acc.length ≤ 2000000) : Does Try.prog E 29 [.agg (kvV x).toArray, .pointer (some ⟨bt, 0, none⟩), .pointer (some ⟨bo, 0, none⟩), .pointer (some ⟨bm, 0, none⟩)]
    [cel bt [str to] 9, cel bo [S.v] 27, cel bm [.int .i64 many] 3, slc tKv true S acc]
    fun v L => ∃ S' : SV, v = .bool (rngStep to many acc x).2 ∧ L = [cel bt [str to] 9, cel bo [S'.v] 27, cel bm [.int .i64 many] 3, slc tKv true S' (rngStep to many acc x).1] := by
  refine Does.of Try.func29 rfl Try.ntmps29 rfl rfl fun F => ?_
  refine J.norm ?_
  refine J_seq ?_
  refine J_region ?_
  refine L_o rfl rfl rfl (O_box rfl fun b4 => ?_)
  refine L_q (Q_assign rfl) rfl rfl rfl ?_
  refine JL_nil ?_
  refine seqQ_normal ?_
  refine J_seq ?_
  refine J_seq ?_
  refine J.mid (fun ρ' L' => envSub [(2, .pointer (some ⟨bo, 0, none⟩)), (3, .pointer (some ⟨bm, 0, none⟩)), (4, .pointer (some ⟨b4, 0, none⟩)), (13, .bool (!decide (to = []) && !kl x.key to))] ρ' ∧ Ent L' [cel b4 (kvV x) 48, cel bt [str to] 9, cel bo [S.v] 27, cel bm [.int .i64 many] 3, slc tKv true S acc, F]) ?_ ?_
  · by_cases h0 : to = []
    · subst h0
      refine J_region ?_
      refine L_q (Q_ld 1 rfl rfl rfl rfl) rfl rfl rfl ?_
      refine L_q ((Q_sneq rfl rfl).as (v' := .bool false) rfl) rfl rfl rfl ?_
      refine L_q (Q_move rfl) rfl rfl rfl ?_
      refine L_n rfl rfl rfl ?_
      refine L_n rfl rfl rfl ?_
      refine L_n rfl rfl rfl ?_
      refine L_n rfl rfl rfl ?_
      refine L_q (Q_pickF rfl rfl) rfl rfl rfl ?_
      refine JL_nil ?_
      exact ⟨rfl, ⟨rfl, rfl, rfl, rfl, trivial⟩, Ent.refl _⟩
    · have e0 : decide (to = []) = false := decide_eq_false h0
      cases hk : kl x.key to with
      | true =>
        refine J_region ?_
        refine L_q (Q_ld 1 rfl rfl rfl rfl) rfl rfl rfl ?_
        refine L_q ((Q_sneq rfl rfl).as (v' := .bool true) (congrArg Value.bool (decide_eq_true h0))) rfl rfl rfl ?_
        refine L_q (Q_move rfl) rfl rfl rfl ?_
        refine L_q (Q_fa0 rfl) rfl rfl rfl ?_
        refine L_q (Q_ld 0 rfl rfl rfl rfl) rfl rfl rfl ?_
        refine L_q (Q_ld 1 rfl rfl rfl rfl) rfl rfl rfl ?_
        refine L_q ((Q_sgeq rfl rfl).as (v' := .bool false) (by rw [less_kl, hk]; rfl)) rfl rfl rfl ?_
        refine L_q (Q_pickT rfl rfl) rfl rfl rfl ?_
        refine JL_nil ?_
        exact ⟨rfl, ⟨rfl, rfl, rfl, by rw [e0]; rfl, trivial⟩, Ent.refl _⟩
      | false =>
        refine J_region ?_
        refine L_q (Q_ld 1 rfl rfl rfl rfl) rfl rfl rfl ?_
        refine L_q ((Q_sneq rfl rfl).as (v' := .bool true) (congrArg Value.bool (decide_eq_true h0))) rfl rfl rfl ?_
        refine L_q (Q_move rfl) rfl rfl rfl ?_
        refine L_q (Q_fa0 rfl) rfl rfl rfl ?_
        refine L_q (Q_ld 0 rfl rfl rfl rfl) rfl rfl rfl ?_
        refine L_q (Q_ld 1 rfl rfl rfl rfl) rfl rfl rfl ?_
        refine L_q ((Q_sgeq rfl rfl).as (v' := .bool true) (by rw [less_kl, hk]; rfl)) rfl rfl rfl ?_
        refine L_q (Q_pickT rfl rfl) rfl rfl rfl ?_
        refine JL_nil ?_
        exact ⟨rfl, ⟨rfl, rfl, rfl, by rw [e0]; rfl, trivial⟩, Ent.refl _⟩
  rintro ρ1 L1 ⟨hsub, hent⟩
  refine J.sub hsub ?_
  refine J.ent hent ?_
  clear hsub hent
  cases hb : (!decide (to = []) && !kl x.key to) with
  | true =>
    have hs : rngStep to many acc x = (acc, false) := by unfold rngStep; rw [if_pos hb]
    refine J_condT rfl ?_
    refine J_seq ?_
    refine J_region ?_
    refine L_q (Q_assign rfl) rfl rfl rfl ?_
    refine JL_nil ?_
    refine seqQ_normal ?_
    refine J_ret ?_
    refine seqQ_ret ?_
    rw [hs]
    exact retQ_ret _ [cel bt [str to] 9, cel bo [S.v] 27, cel bm [.int .i64 many] 3, slc tKv true S acc] (.cons (RV_tmp rfl) .nil) ⟨S, rfl, rfl⟩ (Ent.re [1, 2, 3, 4, 5] rfl)
  | false =>
    have hs : rngStep to many acc x = (acc ++ [x], decide (((acc ++ [x]).length : Int) < many)) := by unfold rngStep; rw [if_neg (by rw [hb]; simp)]
    refine J_condF rfl ?_
    refine J_skip ?_
    refine seqQ_normal ?_
    refine J_seq ?_
    refine J_region ?_
    refine L_q (Q_ld 2 rfl rfl rfl rfl) rfl rfl rfl ?_
    refine L_q (Q_ldA 0 rfl rfl rfl) rfl rfl rfl ?_
    refine L_o rfl rfl rfl (O_litP (τ := tKv) (m := 1) (sz := 2) [x] rfl rfl rfl rfl rfl rfl (by decide) (fun U => ?_))
    refine JL.norm ?_
    refine L_o rfl rfl rfl (O_app (τ := tKv) 5 rfl (fun w h => h.rd 0 rfl) rfl rfl rfl rfl (by simp only [List.length_singleton]; omega) (by decide) (fun W => ?_))
    refine JL.norm ?_
    refine L_s rfl rfl (O_st1 3 rfl rfl rfl rfl rfl ?_)
    refine JL.norm ?_
    refine JL_nil ?_
    refine seqQ_normal ?_
    refine J_seq ?_
    rw [hs]
    refine J_region ?_
    refine L_q (Q_ld 3 rfl rfl rfl rfl) rfl rfl rfl ?_
    refine L_q (Q_lenAt 5 rfl rfl) rfl rfl rfl ?_
    refine L_q (Q_ld 4 rfl rfl rfl rfl) rfl rfl rfl ?_
    refine L_q (Q_lss rfl rfl) rfl rfl rfl ?_
    refine L_q (Q_assign rfl) rfl rfl rfl ?_
    refine JL_nil ?_
    refine seqQ_normal ?_
    refine J_ret ?_
    exact retQ_ret _ [cel bt [str to] 9, cel bo [W.v] 27, cel bm [.int .i64 many] 3, slc tKv true W (acc ++ [x])] (.cons (RV_tmp rfl) .nil) ⟨W, rfl, rfl⟩ (Ent.re [2, 3, 4, 5, 6] rfl)
abbrev eachV (bt bo bm : Nat) : Value := .func (.func 29) #[] #[.pointer (some ⟨bt, 0, none⟩), .pointer (some ⟨bo, 0, none⟩), .pointer (some ⟨bm, 0, none⟩)]
abbrev eachC (bt bo bm : Nat) (to : Ky) (many : Int) (S : SV) : List HProp := [cel bt [str to] 9, cel bo [S.v] 27, cel bm [.int .i64 many] 3]
end Go.Proofs
