/- The document's pool: what is picked. -/
import Derived.Test.YtbpohfojedpneaaPoolR
set_option autoImplicit false
namespace Go.Proofs
open Go.SL
def tBo : Ty Bool := ⟨4, 1, fun b => [.bool b], fun _ => rfl, by decide, fun a v hv => by simp at hv; subst hv; rfl⟩
instance : TyU Try.prog tBo.e .bool := inferInstanceAs (TyU Try.prog 4 .bool)
instance : TyI Try.prog tBo.e 1 (.bool false) 1 := inferInstanceAs (TyI Try.prog 4 1 (.bool false) 1)
instance : TyU Try.prog 61 (.slice tBo.e) := inferInstanceAs (TyU Try.prog 61 (.slice 4))
abbrev Cand (o : List Rq) (c : Int) (x : Rq) : Prop := x ∉ o ∧ x.client = c
def BI (L o : List Rq) (c : Int) (i : Nat) (b : Int) : Prop := (b = -1 ∧ ∀ x ∈ L.take i, ¬ Cand o c x) ∨ ∃ (j : Nat) (hj : j < L.length), b = (j : Int) ∧ j < i ∧ Cand o c L[j] ∧ ∀ x ∈ L.take i, Cand o c x → L[j].seq ≤ x.seq
theorem BI.skip {L o : List Rq} {c : Int} {i : Nat} {b : Int} (h : BI L o c i b) (hi : i < L.length) (hn : ¬ Cand o c L[i]) : BI L o c (i + 1) b := by
  have hm : ∀ x ∈ L.take (i + 1), x ∈ L.take i ∨ x = L[i] := fun x hx => by
    rw [List.take_succ_eq_append_getElem hi, List.mem_append, List.mem_singleton] at hx; exact hx
  rcases h with ⟨h1, h2⟩ | ⟨j, hj, h1, h2, h3, h4⟩
  · refine .inl ⟨h1, fun x hx => ?_⟩
    rcases hm x hx with hx | rfl
    · exact h2 x hx
    · exact hn
  · refine .inr ⟨j, hj, h1, by omega, h3, fun x hx hc => ?_⟩
    rcases hm x hx with hx | rfl
    · exact h4 x hx hc
    · exact absurd hc hn
theorem BI.first {L o : List Rq} {c : Int} {i : Nat} (h : BI L o c i (-1)) (hi : i < L.length) (hc : Cand o c L[i]) : BI L o c (i + 1) (i : Int) := by
  rcases h with ⟨h1, h2⟩ | ⟨j, hj, h1, _⟩
  · refine .inr ⟨i, hi, rfl, by omega, hc, fun x hx hcx => ?_⟩
    rw [List.take_succ_eq_append_getElem hi, List.mem_append, List.mem_singleton] at hx
    rcases hx with hx | rfl
    · exact absurd hcx (h2 x hx)
    · exact Int.le_refl _
  · omega
theorem BI.next {L o : List Rq} {c : Int} {i j : Nat} (h : BI L o c i (j : Int)) (hi : i < L.length) (hj : j < L.length) (hc : Cand o c L[i]) : (L[i].seq < L[j].seq → BI L o c (i + 1) (i : Int)) ∧ (¬ L[i].seq < L[j].seq → BI L o c (i + 1) (j : Int)) := by
  have hm : ∀ x ∈ L.take (i + 1), x ∈ L.take i ∨ x = L[i] := fun x hx => by
    rw [List.take_succ_eq_append_getElem hi, List.mem_append, List.mem_singleton] at hx; exact hx
  rcases h with ⟨h1, _⟩ | ⟨j', hj', h1, h2, h3, h4⟩
  · omega
  · obtain rfl : j = j' := by omega
    refine ⟨fun hlt => .inr ⟨i, hi, rfl, by omega, hc, fun x hx hcx => ?_⟩, fun hlt => .inr ⟨j, hj, rfl, by omega, h3, fun x hx hcx => ?_⟩⟩
    · rcases hm x hx with hx | rfl
      · have := h4 x hx hcx; omega
      · exact Int.le_refl _
    · rcases hm x hx with hx | rfl
      · exact h4 x hx hcx
      · omega
theorem taken_set {L o : List Rq} (hn : L.Nodup) (j : Nat) (hj : j < L.length) : (L.map fun x => decide (x ∈ o)).set j true = L.map fun x => decide (x ∈ o ++ [L[j]]) := by
  apply List.ext_getElem?
  intro k
  rw [List.getElem?_set, List.getElem?_map, List.getElem?_map]
  by_cases hk : k < L.length
  · rw [List.getElem?_eq_getElem hk]
    by_cases e : j = k
    · subst e; simp [hj]
    · have : L[k] ≠ L[j] := fun e2 => e ((List.getElem_inj hn).1 e2).symm
      simp [e, this]
  · rw [List.getElem?_eq_none (by omega)]
    have : j ≠ k := by omega
    simp [this]
attribute [local irreducible] J JL QOp JOp seqQ blockQ loopQ retQ slc cel hex star pur stars Does RV Ent pAt scopeQ
theorem rpick_ok (E : World) (S : SV) (X : Int → Int) (W : Int → List Rq) (n : Nat) (L : List Rq) (most : Int) (h : PR W X n L) : Does Try.prog E 13 [refP S X, .int .i64 most] [slc tRq true S L] fun v Lc => ∃ O : SV, v = O.v ∧ Lc = [slc tRq true S L, slc tRq true O (pickL W most)] := by
  have hn := h.nodup
  have hl32 : L.length ≤ 32 := by rw [← h.n_eq]; exact h.pw.n32
  have hrng := h.rng
  refine Does.of Try.func13 rfl Try.ntmps13 rfl rfl fun F => ?_
  refine J.norm ?_
  refine J_seq ?_
  refine J_region ?_
  refine L_o rfl rfl rfl (O_box rfl fun b2 => ?_)
  refine L_q (Q_assign rfl) rfl rfl rfl ?_
  refine JL_nil ?_
  refine seqQ_normal ?_
  refine J_seq ?_
  refine J_region ?_
  refine L_q (Q_assign rfl) rfl rfl rfl ?_
  refine JL_nil ?_
  refine seqQ_normal ?_
  refine J_seq ?_
  refine J_region ?_
  refine L_q (Q_fa0 rfl) rfl rfl rfl ?_
  refine L_q (Q_ld 0 rfl rfl rfl rfl) rfl rfl rfl ?_
  refine L_q (Q_lenAt 1 rfl rfl) rfl rfl rfl ?_
  refine L_o rfl rfl rfl (O_mk (τ := tBo) L.length false rfl rfl rfl rfl rfl rfl (by omega) (by decide) (fun T => ?_))
  refine JL.norm ?_
  refine L_q (Q_assign rfl) rfl rfl rfl ?_
  refine JL_nil ?_
  refine seqQ_normal ?_
  refine J_seq ?_
  refine J_seq ?_
  refine J_region ?_
  refine L_q (Q_assign rfl) rfl rfl rfl ?_
  refine JL_nil ?_
  refine seqQ_normal ?_
  refine J_block ?_
  refine J.ent (Ent.mk fun _ _ h => (h.lay_nil tRq true : Sat _ _ (slc tRq true SV.nil [] :: _))) ?_
  refine J_loop (fun i : Nat × SV => i.1 ≤ L.length ∧ ((preK W i.1 0).take most.toNat).length ≤ 16 * i.1) (fun i => [(1, .int .i64 most), (2, .pointer (some ⟨b2, 0, none⟩)), (5, i.2.v), (6, T.v), (7, .int .i64 (i.1 : Int))])
    (fun i => [slc tRq true i.2 ((preK W i.1 0).take most.toNat), slc tBo true T (L.map fun x => decide (x ∈ (preK W i.1 0).take most.toNat)), cel b2 (refC S X) 30, slc tRq true S L, F]) (fun i => L.length - i.1) (0, SV.nil) ⟨by simp, by simp [preK_0]⟩ ⟨rfl, rfl, rfl, rfl, rfl, trivial⟩ (by
      have e : (L.map fun x => decide (x ∈ (preK W 0 0).take most.toNat)) = List.replicate L.length false := by
        rw [List.eq_replicate_iff]; simp [preK_0]
      simp only [e]
      simp only [preK_0, List.range_zero, List.flatMap_nil, List.take_nil]
      exact Ent.refl _) ?_
  rintro ⟨r, O⟩ ⟨hr, hO⟩
  dsimp only at hr hO ⊢
  refine J_seq ?_
  refine J_seq ?_
  refine J_region ?_
  refine L_q (Q_move rfl) rfl rfl rfl ?_
  refine L_q (Q_fa0 rfl) rfl rfl rfl ?_
  refine L_q (Q_ld 2 rfl rfl rfl rfl) rfl rfl rfl ?_
  refine L_q (Q_lenAt 3 rfl rfl) rfl rfl rfl ?_
  refine L_q (Q_lss rfl rfl) rfl rfl rfl ?_
  refine JL_nil ?_
  refine seqQ_normal ?_
  refine J_condD rfl (fun h1 => ?_) (fun h1 => ?_)
  · have hrl : r < L.length := by omega
    refine J_skip ?_
    refine seqQ_normal ?_
    refine J_seq ?_
    refine J_block ?_
    refine J_seq ?_
    refine J_region ?_
    refine L_q (Q_assign rfl) rfl rfl rfl ?_
    refine JL_nil ?_
    refine seqQ_normal ?_
    refine J_block ?_
    refine J_loop (fun i : Nat × SV => i.1 ≤ 16 ∧ ((preK W r i.1).take most.toNat).length ≤ 16 * r + i.1) (fun i => [(1, .int .i64 most), (2, .pointer (some ⟨b2, 0, none⟩)), (5, i.2.v), (6, T.v), (7, .int .i64 (r : Int)), (8, .int .i64 (i.1 : Int))])
      (fun i => [slc tRq true i.2 ((preK W r i.1).take most.toNat), slc tBo true T (L.map fun x => decide (x ∈ (preK W r i.1).take most.toNat)), cel b2 (refC S X) 30, slc tRq true S L, F]) (fun i => 16 - i.1) (0, O) ⟨by simp, by simp only; omega⟩ ⟨rfl, rfl, rfl, rfl, rfl, rfl, trivial⟩ (Ent.refl _) ?_
    rintro ⟨c, O2⟩ ⟨hc, hO2⟩
    dsimp only at hc hO2 ⊢
    refine J_seq ?_
    refine J_seq ?_
    refine J_region ?_
    refine L_q (Q_move rfl) rfl rfl rfl ?_
    refine L_q (Q_leq rfl rfl) rfl rfl rfl ?_
    refine JL_nil ?_
    refine seqQ_normal ?_
    refine J_condD rfl (fun h2 => ?_) (fun h2 => ?_)
    · have hc16 : c < 16 := by omega
      have hs := preK_succ W r c hc16
      have hsn := sel_none h (r := r) hc16
      have hss := fun y => sel_some h (r := r) (y := y) hc16
      generalize preK W r c = A at *
      have hfull := take_full A (atR W r (c : Int)) most.toNat
      have hgrow := fun x => take_grow A x most.toNat
      have hA : (A.take most.toNat).length < most.toNat → A.take most.toNat = A := fun h3 => List.take_of_length_le (by rw [List.length_take] at h3; omega)
      generalize ho : A.take most.toNat = o at *
      have hml : (L.map fun x => decide (x ∈ o)).length = L.length := by simp
      have hmg : ∀ (i : Nat) (hi : i < L.length), (L.map fun x => decide (x ∈ o))[i]'(by rw [hml]; exact hi) = decide (L[i] ∈ o) := fun i hi => by simp
      refine J_skip ?_
      refine seqQ_normal ?_
      refine J_seq ?_
      refine J_block ?_
      refine J_seq ?_
      refine J_region ?_
      refine L_q (Q_assign rfl) rfl rfl rfl ?_
      refine JL_nil ?_
      refine seqQ_normal ?_
      refine J_seq ?_
      refine J_seq ?_
      refine J_region ?_
      refine L_q (Q_assign rfl) rfl rfl rfl ?_
      refine JL_nil ?_
      refine seqQ_normal ?_
      refine J_block ?_
      refine J_loop (fun i : Nat × Int => i.1 ≤ L.length ∧ BI L o (c : Int) i.1 i.2) (fun i => [(1, .int .i64 most), (2, .pointer (some ⟨b2, 0, none⟩)), (5, O2.v), (6, T.v), (7, .int .i64 (r : Int)), (8, .int .i64 (c : Int)), (9, .int .i64 i.2), (10, .int .i64 (i.1 : Int))])
        (fun i => [slc tRq true O2 o, slc tBo true T (L.map fun x => decide (x ∈ o)), cel b2 (refC S X) 30, slc tRq true S L, F]) (fun i => L.length - i.1) (0, -1) ⟨by simp, .inl ⟨rfl, by simp⟩⟩ ⟨rfl, rfl, rfl, rfl, rfl, rfl, rfl, rfl, trivial⟩ (Ent.refl _) ?_
      rintro ⟨i, b⟩ ⟨hi, hB⟩
      dsimp only at hi hB ⊢
      refine J_seq ?_
      refine J_seq ?_
      refine J_region ?_
      refine L_q (Q_move rfl) rfl rfl rfl ?_
      refine L_q (Q_fa0 rfl) rfl rfl rfl ?_
      refine L_q (Q_ld 2 rfl rfl rfl rfl) rfl rfl rfl ?_
      refine L_q (Q_lenAt 3 rfl rfl) rfl rfl rfl ?_
      refine L_q (Q_lss rfl rfl) rfl rfl rfl ?_
      refine JL_nil ?_
      refine seqQ_normal ?_
      refine J_condD rfl (fun h3 => ?_) (fun h3 => ?_)
      · have hil : i < L.length := by omega
        have him : i < (L.map fun x => decide (x ∈ o)).length := by omega
        by_cases hin : L[i] ∈ o
        · refine J_skip ?_
          refine seqQ_normal ?_
          refine J_seq ?_
          refine J_block ?_
          refine J_seq ?_
          refine J_drawH [1,2,3] [0, 1, 2, 3, 4, 5, 6, 7, 8, 9, 10, 11, 12, 13, 14, 15, 16, 17, 18, 19, 20, 21, 22, 23, 24, 25, 26, 27, 28, 29, 30, 31, 32, 33] (.quiet 0 (.quiet 1 (.quiet 2 (.quiet 3 (.quiet 4 (.quiet 5 (.quiet 6 (.quiet 7 (.quiet 8 (.quiet 9 (.quiet 10 (.quiet 11 (.quiet 12 (.quiet 13 (.quiet 14 (.quiet 15 (.quiet 16 (.quiet 17 (.quiet 18 (.quiet 19 (.quiet 20 (.quiet 21 (.quiet 22 (.quiet 23 (.quiet 24 (.quiet 25 (.quiet 26 (.quiet 27 (.quiet 28 (.quiet 29 (.quiet 30 (.quiet 31 (.quiet 32 (.quiet 33 .done)))))))))))))))))))))))))))))))))) Try.mixed (by kernel_rfl) (by kernel_rfl) (by repeat (first | exact retQ_noP | refine seqQ_noP ?_ | refine blockQ_noP ?_ | refine loopQ_noP ?_ | refine scopeQ_noP ?_)) ?_
          refine S_q (Ent.re [1,2,3] rfl) rfl (Q_move rfl) rfl rfl rfl ?_
          refine S_q (Ent.re [1,2,3] rfl) rfl (Q_move rfl) rfl rfl rfl ?_
          refine S_q (Ent.re [1,2,3] rfl) rfl (Q_ixAt 0 i rfl rfl rfl rfl him rfl) rfl rfl rfl ?_
          refine S_q (Ent.re [1,2,3] rfl) rfl (Q_ldEAt 0 i 0 (v := .bool true) rfl rfl rfl rfl him (by decide) (by rw [hmg i hil, decide_eq_true hin]; rfl)) rfl rfl rfl ?_
          refine S_q (Ent.re [1,2,3] rfl) rfl (Q_not rfl) rfl rfl rfl ?_
          refine S_q (Ent.re [1,2,3] rfl) rfl (Q_move rfl) rfl rfl rfl ?_
          refine S_n (Ent.re [1,2,3] rfl) rfl rfl rfl rfl ?_
          refine S_n (Ent.re [1,2,3] rfl) rfl rfl rfl rfl ?_
          refine S_n (Ent.re [1,2,3] rfl) rfl rfl rfl rfl ?_
          refine S_n (Ent.re [1,2,3] rfl) rfl rfl rfl rfl ?_
          refine S_n (Ent.re [1,2,3] rfl) rfl rfl rfl rfl ?_
          refine S_n (Ent.re [1,2,3] rfl) rfl rfl rfl rfl ?_
          refine S_n (Ent.re [1,2,3] rfl) rfl rfl rfl rfl ?_
          refine S_n (Ent.re [1,2,3] rfl) rfl rfl rfl rfl ?_
          refine S_q (Ent.re [1,2,3] rfl) rfl (Q_pickF rfl rfl) rfl rfl rfl ?_
          refine S_q (Ent.re [1,2,3] rfl) rfl (Q_move rfl) rfl rfl rfl ?_
          refine S_n (Ent.re [1,2,3] rfl) rfl rfl rfl rfl ?_
          refine S_n (Ent.re [1,2,3] rfl) rfl rfl rfl rfl ?_
          refine S_n (Ent.re [1,2,3] rfl) rfl rfl rfl rfl ?_
          refine S_n (Ent.re [1,2,3] rfl) rfl rfl rfl rfl ?_
          refine S_n (Ent.re [1,2,3] rfl) rfl rfl rfl rfl ?_
          refine S_n (Ent.re [1,2,3] rfl) rfl rfl rfl rfl ?_
          refine S_n (Ent.re [1,2,3] rfl) rfl rfl rfl rfl ?_
          refine S_n (Ent.re [1,2,3] rfl) rfl rfl rfl rfl ?_
          refine S_n (Ent.re [1,2,3] rfl) rfl rfl rfl rfl ?_
          refine S_n (Ent.re [1,2,3] rfl) rfl rfl rfl rfl ?_
          refine S_n (Ent.re [1,2,3] rfl) rfl rfl rfl rfl ?_
          refine S_n (Ent.re [1,2,3] rfl) rfl rfl rfl rfl ?_
          refine S_n (Ent.re [1,2,3] rfl) rfl rfl rfl rfl ?_
          refine S_n (Ent.re [1,2,3] rfl) rfl rfl rfl rfl ?_
          refine S_n (Ent.re [1,2,3] rfl) rfl rfl rfl rfl ?_
          refine S_n (Ent.re [1,2,3] rfl) rfl rfl rfl rfl ?_
          refine S_n (Ent.re [1,2,3] rfl) rfl rfl rfl rfl ?_
          refine S_q (Ent.re [1,2,3] rfl) rfl (Q_pickF rfl rfl) rfl rfl rfl ?_
          refine S_nil ?_
          refine seqQ_normal ?_
          refine J_condF rfl ?_
          refine J_skip ?_
          refine blockQ_normal ?_
          refine seqQ_normal ?_
          refine J_region ?_
          refine L_q (Q_move rfl) rfl rfl rfl ?_
          refine L_q (Q_add rfl rfl (by first | exact IntWalk.i64_in _ (by omega) | exact IntWalk.u8_in _ (by omega) | exact IntWalk.u32_in _ (by omega) | exact IntWalk.u64_in _ (by omega) | rfl)) rfl rfl rfl ?_
          refine L_q (Q_assign rfl) rfl rfl rfl ?_
          refine JL_nil ?_
          exact loopQ_normal (i + 1, b) ⟨hil, hB.skip hil fun h => h.1 hin⟩ (by simp only; omega) ⟨rfl, rfl, rfl, rfl, rfl, rfl, rfl, rfl, trivial⟩ (Ent.refl _)
        by_cases hcl : L[i].client = (c : Int)
        · have hcand : Cand o (c : Int) L[i] := ⟨hin, hcl⟩
          rcases hB with ⟨rfl, hno⟩ | ⟨j, hj, rfl, hji, hcj, hbest⟩
          · have hB : BI L o (c : Int) i (-1) := .inl ⟨rfl, hno⟩
            refine J_skip ?_
            refine seqQ_normal ?_
            refine J_seq ?_
            refine J_block ?_
            refine J_seq ?_
            refine J_drawH [1,2,3] [0, 1, 2, 3, 4, 5, 6, 7, 8, 9, 10, 11, 12, 13, 14, 15, 16, 17, 18, 19, 20, 21, 22, 23, 24, 25, 26, 27, 28, 29, 30, 31, 32, 33] (.quiet 0 (.quiet 1 (.quiet 2 (.quiet 3 (.quiet 4 (.quiet 5 (.quiet 6 (.quiet 7 (.quiet 8 (.quiet 9 (.quiet 10 (.quiet 11 (.quiet 12 (.quiet 13 (.quiet 14 (.quiet 15 (.quiet 16 (.quiet 17 (.quiet 18 (.quiet 19 (.quiet 20 (.quiet 21 (.quiet 22 (.quiet 23 (.quiet 24 (.quiet 25 (.quiet 26 (.quiet 27 (.quiet 28 (.quiet 29 (.quiet 30 (.quiet 31 (.quiet 32 (.quiet 33 .done)))))))))))))))))))))))))))))))))) Try.mixed (by kernel_rfl) (by kernel_rfl) (by repeat (first | exact retQ_noP | refine seqQ_noP ?_ | refine blockQ_noP ?_ | refine loopQ_noP ?_ | refine scopeQ_noP ?_)) ?_
            refine S_q (Ent.re [1,2,3] rfl) rfl (Q_move rfl) rfl rfl rfl ?_
            refine S_q (Ent.re [1,2,3] rfl) rfl (Q_move rfl) rfl rfl rfl ?_
            refine S_q (Ent.re [1,2,3] rfl) rfl (Q_ixAt 0 i rfl rfl rfl rfl him rfl) rfl rfl rfl ?_
            refine S_q (Ent.re [1,2,3] rfl) rfl (Q_ldEAt 0 i 0 (v := .bool false) rfl rfl rfl rfl him (by decide) (by rw [hmg i hil, decide_eq_false hin]; rfl)) rfl rfl rfl ?_
            refine S_q (Ent.re [1,2,3] rfl) rfl ((Q_not rfl).as (v' := .bool true) rfl) rfl rfl rfl ?_
            refine S_q (Ent.re [1,2,3] rfl) rfl (Q_move rfl) rfl rfl rfl ?_
            refine S_q (Ent.re [1,2,3] rfl) rfl (Q_fa0 rfl) rfl rfl rfl ?_
            refine S_q (Ent.re [1,2,3] rfl) rfl (Q_ld 1 rfl rfl rfl rfl) rfl rfl rfl ?_
            refine S_q (Ent.re [1,2,3] rfl) rfl (Q_move rfl) rfl rfl rfl ?_
            refine S_q (Ent.re [1,2,3] rfl) rfl (Q_ixAt 2 i rfl rfl rfl rfl hil rfl) rfl rfl rfl ?_
            refine S_q (Ent.re [1,2,3] rfl) rfl (Q_pfa rfl) rfl rfl rfl ?_
            refine S_q (Ent.re [1,2,3] rfl) rfl (Q_ldEAt 2 i 0 (v := .int .i64 L[i].client) rfl rfl rfl rfl hil (by decide) rfl) rfl rfl rfl ?_
            refine S_q (Ent.re [1,2,3] rfl) rfl (Q_move rfl) rfl rfl rfl ?_
            refine S_q (Ent.re [1,2,3] rfl) rfl ((Q_eql rfl rfl).as (v' := .bool true) (congrArg Value.bool (decide_eq_true hcl))) rfl rfl rfl ?_
            refine S_q (Ent.re [1,2,3] rfl) rfl (Q_pickT rfl rfl) rfl rfl rfl ?_
            refine S_q (Ent.re [1,2,3] rfl) rfl (Q_move rfl) rfl rfl rfl ?_
            refine S_q (Ent.re [1,2,3] rfl) rfl (Q_move rfl) rfl rfl rfl ?_
            refine S_q (Ent.re [1,2,3] rfl) rfl ((Q_lss rfl rfl).as (v' := .bool true) rfl) rfl rfl rfl ?_
            refine S_q (Ent.re [1,2,3] rfl) rfl (Q_move rfl) rfl rfl rfl ?_
            refine S_n (Ent.re [1,2,3] rfl) rfl rfl rfl rfl ?_
            refine S_n (Ent.re [1,2,3] rfl) rfl rfl rfl rfl ?_
            refine S_n (Ent.re [1,2,3] rfl) rfl rfl rfl rfl ?_
            refine S_n (Ent.re [1,2,3] rfl) rfl rfl rfl rfl ?_
            refine S_n (Ent.re [1,2,3] rfl) rfl rfl rfl rfl ?_
            refine S_n (Ent.re [1,2,3] rfl) rfl rfl rfl rfl ?_
            refine S_n (Ent.re [1,2,3] rfl) rfl rfl rfl rfl ?_
            refine S_n (Ent.re [1,2,3] rfl) rfl rfl rfl rfl ?_
            refine S_n (Ent.re [1,2,3] rfl) rfl rfl rfl rfl ?_
            refine S_n (Ent.re [1,2,3] rfl) rfl rfl rfl rfl ?_
            refine S_n (Ent.re [1,2,3] rfl) rfl rfl rfl rfl ?_
            refine S_n (Ent.re [1,2,3] rfl) rfl rfl rfl rfl ?_
            refine S_n (Ent.re [1,2,3] rfl) rfl rfl rfl rfl ?_
            refine S_q (Ent.re [1,2,3] rfl) rfl (Q_pickT rfl rfl) rfl rfl rfl ?_
            refine S_q (Ent.re [1,2,3] rfl) rfl (Q_pickT rfl rfl) rfl rfl rfl ?_
            refine S_nil ?_
            refine seqQ_normal ?_
            refine J_condT rfl ?_
            refine J_region ?_
            refine L_q (Q_move rfl) rfl rfl rfl ?_
            refine L_q (Q_assign rfl) rfl rfl rfl ?_
            refine JL_nil ?_
            refine blockQ_normal ?_
            refine seqQ_normal ?_
            refine J_region ?_
            refine L_q (Q_move rfl) rfl rfl rfl ?_
            refine L_q (Q_add rfl rfl (by first | exact IntWalk.i64_in _ (by omega) | exact IntWalk.u8_in _ (by omega) | exact IntWalk.u32_in _ (by omega) | exact IntWalk.u64_in _ (by omega) | rfl)) rfl rfl rfl ?_
            refine L_q (Q_assign rfl) rfl rfl rfl ?_
            refine JL_nil ?_
            exact loopQ_normal (i + 1, (i : Int)) ⟨hil, hB.first hil hcand⟩ (by simp only; omega) ⟨rfl, rfl, rfl, rfl, rfl, rfl, rfl, rfl, trivial⟩ (Ent.refl _)
          · have hB : BI L o (c : Int) i (j : Int) := .inr ⟨j, hj, rfl, hji, hcj, hbest⟩
            have hnx := hB.next hil hj hcand
            by_cases hlt : L[i].seq < L[j].seq
            · refine J_skip ?_
              refine seqQ_normal ?_
              refine J_seq ?_
              refine J_block ?_
              refine J_seq ?_
              refine J_drawH [1,2,3] [0, 1, 2, 3, 4, 5, 6, 7, 8, 9, 10, 11, 12, 13, 14, 15, 16, 17, 18, 19, 20, 21, 22, 23, 24, 25, 26, 27, 28, 29, 30, 31, 32, 33] (.quiet 0 (.quiet 1 (.quiet 2 (.quiet 3 (.quiet 4 (.quiet 5 (.quiet 6 (.quiet 7 (.quiet 8 (.quiet 9 (.quiet 10 (.quiet 11 (.quiet 12 (.quiet 13 (.quiet 14 (.quiet 15 (.quiet 16 (.quiet 17 (.quiet 18 (.quiet 19 (.quiet 20 (.quiet 21 (.quiet 22 (.quiet 23 (.quiet 24 (.quiet 25 (.quiet 26 (.quiet 27 (.quiet 28 (.quiet 29 (.quiet 30 (.quiet 31 (.quiet 32 (.quiet 33 .done)))))))))))))))))))))))))))))))))) Try.mixed (by kernel_rfl) (by kernel_rfl) (by repeat (first | exact retQ_noP | refine seqQ_noP ?_ | refine blockQ_noP ?_ | refine loopQ_noP ?_ | refine scopeQ_noP ?_)) ?_
              refine S_q (Ent.re [1,2,3] rfl) rfl (Q_move rfl) rfl rfl rfl ?_
              refine S_q (Ent.re [1,2,3] rfl) rfl (Q_move rfl) rfl rfl rfl ?_
              refine S_q (Ent.re [1,2,3] rfl) rfl (Q_ixAt 0 i rfl rfl rfl rfl him rfl) rfl rfl rfl ?_
              refine S_q (Ent.re [1,2,3] rfl) rfl (Q_ldEAt 0 i 0 (v := .bool false) rfl rfl rfl rfl him (by decide) (by rw [hmg i hil, decide_eq_false hin]; rfl)) rfl rfl rfl ?_
              refine S_q (Ent.re [1,2,3] rfl) rfl ((Q_not rfl).as (v' := .bool true) rfl) rfl rfl rfl ?_
              refine S_q (Ent.re [1,2,3] rfl) rfl (Q_move rfl) rfl rfl rfl ?_
              refine S_q (Ent.re [1,2,3] rfl) rfl (Q_fa0 rfl) rfl rfl rfl ?_
              refine S_q (Ent.re [1,2,3] rfl) rfl (Q_ld 1 rfl rfl rfl rfl) rfl rfl rfl ?_
              refine S_q (Ent.re [1,2,3] rfl) rfl (Q_move rfl) rfl rfl rfl ?_
              refine S_q (Ent.re [1,2,3] rfl) rfl (Q_ixAt 2 i rfl rfl rfl rfl hil rfl) rfl rfl rfl ?_
              refine S_q (Ent.re [1,2,3] rfl) rfl (Q_pfa rfl) rfl rfl rfl ?_
              refine S_q (Ent.re [1,2,3] rfl) rfl (Q_ldEAt 2 i 0 (v := .int .i64 L[i].client) rfl rfl rfl rfl hil (by decide) rfl) rfl rfl rfl ?_
              refine S_q (Ent.re [1,2,3] rfl) rfl (Q_move rfl) rfl rfl rfl ?_
              refine S_q (Ent.re [1,2,3] rfl) rfl ((Q_eql rfl rfl).as (v' := .bool true) (congrArg Value.bool (decide_eq_true hcl))) rfl rfl rfl ?_
              refine S_q (Ent.re [1,2,3] rfl) rfl (Q_pickT rfl rfl) rfl rfl rfl ?_
              refine S_q (Ent.re [1,2,3] rfl) rfl (Q_move rfl) rfl rfl rfl ?_
              refine S_q (Ent.re [1,2,3] rfl) rfl (Q_move rfl) rfl rfl rfl ?_
              refine S_q (Ent.re [1,2,3] rfl) rfl ((Q_lss rfl rfl).as (v' := .bool false) (congrArg Value.bool (decide_eq_false (by omega)))) rfl rfl rfl ?_
              refine S_q (Ent.re [1,2,3] rfl) rfl (Q_move rfl) rfl rfl rfl ?_
              refine S_q (Ent.re [1,2,3] rfl) rfl (Q_fa0 rfl) rfl rfl rfl ?_
              refine S_q (Ent.re [1,2,3] rfl) rfl (Q_ld 1 rfl rfl rfl rfl) rfl rfl rfl ?_
              refine S_q (Ent.re [1,2,3] rfl) rfl (Q_move rfl) rfl rfl rfl ?_
              refine S_q (Ent.re [1,2,3] rfl) rfl (Q_ixAt 2 i rfl rfl rfl rfl hil rfl) rfl rfl rfl ?_
              refine S_q (Ent.re [1,2,3] rfl) rfl (Q_pfa rfl) rfl rfl rfl ?_
              refine S_q (Ent.re [1,2,3] rfl) rfl (Q_ldEAt 2 i 1 (v := .int .i64 L[i].seq) rfl rfl rfl rfl hil (by decide) rfl) rfl rfl rfl ?_
              refine S_q (Ent.re [1,2,3] rfl) rfl (Q_fa0 rfl) rfl rfl rfl ?_
              refine S_q (Ent.re [1,2,3] rfl) rfl (Q_ld 1 rfl rfl rfl rfl) rfl rfl rfl ?_
              refine S_q (Ent.re [1,2,3] rfl) rfl (Q_move rfl) rfl rfl rfl ?_
              refine S_q (Ent.re [1,2,3] rfl) rfl (Q_ixAt 2 j rfl rfl rfl rfl hj rfl) rfl rfl rfl ?_
              refine S_q (Ent.re [1,2,3] rfl) rfl (Q_pfa rfl) rfl rfl rfl ?_
              refine S_q (Ent.re [1,2,3] rfl) rfl (Q_ldEAt 2 j 1 (v := .int .i64 L[j].seq) rfl rfl rfl rfl hj (by decide) rfl) rfl rfl rfl ?_
              refine S_q (Ent.re [1,2,3] rfl) rfl ((Q_lss rfl rfl).as (v' := .bool true) (congrArg Value.bool (decide_eq_true hlt))) rfl rfl rfl ?_
              refine S_q (Ent.re [1,2,3] rfl) rfl (Q_pickF rfl rfl) rfl rfl rfl ?_
              refine S_q (Ent.re [1,2,3] rfl) rfl (Q_pickT rfl rfl) rfl rfl rfl ?_
              refine S_nil ?_
              refine seqQ_normal ?_
              refine J_condT rfl ?_
              refine J_region ?_
              refine L_q (Q_move rfl) rfl rfl rfl ?_
              refine L_q (Q_assign rfl) rfl rfl rfl ?_
              refine JL_nil ?_
              refine blockQ_normal ?_
              refine seqQ_normal ?_
              refine J_region ?_
              refine L_q (Q_move rfl) rfl rfl rfl ?_
              refine L_q (Q_add rfl rfl (by first | exact IntWalk.i64_in _ (by omega) | exact IntWalk.u8_in _ (by omega) | exact IntWalk.u32_in _ (by omega) | exact IntWalk.u64_in _ (by omega) | rfl)) rfl rfl rfl ?_
              refine L_q (Q_assign rfl) rfl rfl rfl ?_
              refine JL_nil ?_
              exact loopQ_normal (i + 1, (i : Int)) ⟨hil, hnx.1 hlt⟩ (by simp only; omega) ⟨rfl, rfl, rfl, rfl, rfl, rfl, rfl, rfl, trivial⟩ (Ent.refl _)
            · refine J_skip ?_
              refine seqQ_normal ?_
              refine J_seq ?_
              refine J_block ?_
              refine J_seq ?_
              refine J_drawH [1,2,3] [0, 1, 2, 3, 4, 5, 6, 7, 8, 9, 10, 11, 12, 13, 14, 15, 16, 17, 18, 19, 20, 21, 22, 23, 24, 25, 26, 27, 28, 29, 30, 31, 32, 33] (.quiet 0 (.quiet 1 (.quiet 2 (.quiet 3 (.quiet 4 (.quiet 5 (.quiet 6 (.quiet 7 (.quiet 8 (.quiet 9 (.quiet 10 (.quiet 11 (.quiet 12 (.quiet 13 (.quiet 14 (.quiet 15 (.quiet 16 (.quiet 17 (.quiet 18 (.quiet 19 (.quiet 20 (.quiet 21 (.quiet 22 (.quiet 23 (.quiet 24 (.quiet 25 (.quiet 26 (.quiet 27 (.quiet 28 (.quiet 29 (.quiet 30 (.quiet 31 (.quiet 32 (.quiet 33 .done)))))))))))))))))))))))))))))))))) Try.mixed (by kernel_rfl) (by kernel_rfl) (by repeat (first | exact retQ_noP | refine seqQ_noP ?_ | refine blockQ_noP ?_ | refine loopQ_noP ?_ | refine scopeQ_noP ?_)) ?_
              refine S_q (Ent.re [1,2,3] rfl) rfl (Q_move rfl) rfl rfl rfl ?_
              refine S_q (Ent.re [1,2,3] rfl) rfl (Q_move rfl) rfl rfl rfl ?_
              refine S_q (Ent.re [1,2,3] rfl) rfl (Q_ixAt 0 i rfl rfl rfl rfl him rfl) rfl rfl rfl ?_
              refine S_q (Ent.re [1,2,3] rfl) rfl (Q_ldEAt 0 i 0 (v := .bool false) rfl rfl rfl rfl him (by decide) (by rw [hmg i hil, decide_eq_false hin]; rfl)) rfl rfl rfl ?_
              refine S_q (Ent.re [1,2,3] rfl) rfl ((Q_not rfl).as (v' := .bool true) rfl) rfl rfl rfl ?_
              refine S_q (Ent.re [1,2,3] rfl) rfl (Q_move rfl) rfl rfl rfl ?_
              refine S_q (Ent.re [1,2,3] rfl) rfl (Q_fa0 rfl) rfl rfl rfl ?_
              refine S_q (Ent.re [1,2,3] rfl) rfl (Q_ld 1 rfl rfl rfl rfl) rfl rfl rfl ?_
              refine S_q (Ent.re [1,2,3] rfl) rfl (Q_move rfl) rfl rfl rfl ?_
              refine S_q (Ent.re [1,2,3] rfl) rfl (Q_ixAt 2 i rfl rfl rfl rfl hil rfl) rfl rfl rfl ?_
              refine S_q (Ent.re [1,2,3] rfl) rfl (Q_pfa rfl) rfl rfl rfl ?_
              refine S_q (Ent.re [1,2,3] rfl) rfl (Q_ldEAt 2 i 0 (v := .int .i64 L[i].client) rfl rfl rfl rfl hil (by decide) rfl) rfl rfl rfl ?_
              refine S_q (Ent.re [1,2,3] rfl) rfl (Q_move rfl) rfl rfl rfl ?_
              refine S_q (Ent.re [1,2,3] rfl) rfl ((Q_eql rfl rfl).as (v' := .bool true) (congrArg Value.bool (decide_eq_true hcl))) rfl rfl rfl ?_
              refine S_q (Ent.re [1,2,3] rfl) rfl (Q_pickT rfl rfl) rfl rfl rfl ?_
              refine S_q (Ent.re [1,2,3] rfl) rfl (Q_move rfl) rfl rfl rfl ?_
              refine S_q (Ent.re [1,2,3] rfl) rfl (Q_move rfl) rfl rfl rfl ?_
              refine S_q (Ent.re [1,2,3] rfl) rfl ((Q_lss rfl rfl).as (v' := .bool false) (congrArg Value.bool (decide_eq_false (by omega)))) rfl rfl rfl ?_
              refine S_q (Ent.re [1,2,3] rfl) rfl (Q_move rfl) rfl rfl rfl ?_
              refine S_q (Ent.re [1,2,3] rfl) rfl (Q_fa0 rfl) rfl rfl rfl ?_
              refine S_q (Ent.re [1,2,3] rfl) rfl (Q_ld 1 rfl rfl rfl rfl) rfl rfl rfl ?_
              refine S_q (Ent.re [1,2,3] rfl) rfl (Q_move rfl) rfl rfl rfl ?_
              refine S_q (Ent.re [1,2,3] rfl) rfl (Q_ixAt 2 i rfl rfl rfl rfl hil rfl) rfl rfl rfl ?_
              refine S_q (Ent.re [1,2,3] rfl) rfl (Q_pfa rfl) rfl rfl rfl ?_
              refine S_q (Ent.re [1,2,3] rfl) rfl (Q_ldEAt 2 i 1 (v := .int .i64 L[i].seq) rfl rfl rfl rfl hil (by decide) rfl) rfl rfl rfl ?_
              refine S_q (Ent.re [1,2,3] rfl) rfl (Q_fa0 rfl) rfl rfl rfl ?_
              refine S_q (Ent.re [1,2,3] rfl) rfl (Q_ld 1 rfl rfl rfl rfl) rfl rfl rfl ?_
              refine S_q (Ent.re [1,2,3] rfl) rfl (Q_move rfl) rfl rfl rfl ?_
              refine S_q (Ent.re [1,2,3] rfl) rfl (Q_ixAt 2 j rfl rfl rfl rfl hj rfl) rfl rfl rfl ?_
              refine S_q (Ent.re [1,2,3] rfl) rfl (Q_pfa rfl) rfl rfl rfl ?_
              refine S_q (Ent.re [1,2,3] rfl) rfl (Q_ldEAt 2 j 1 (v := .int .i64 L[j].seq) rfl rfl rfl rfl hj (by decide) rfl) rfl rfl rfl ?_
              refine S_q (Ent.re [1,2,3] rfl) rfl ((Q_lss rfl rfl).as (v' := .bool false) (congrArg Value.bool (decide_eq_false hlt))) rfl rfl rfl ?_
              refine S_q (Ent.re [1,2,3] rfl) rfl (Q_pickF rfl rfl) rfl rfl rfl ?_
              refine S_q (Ent.re [1,2,3] rfl) rfl (Q_pickT rfl rfl) rfl rfl rfl ?_
              refine S_nil ?_
              refine seqQ_normal ?_
              refine J_condF rfl ?_
              refine J_skip ?_
              refine blockQ_normal ?_
              refine seqQ_normal ?_
              refine J_region ?_
              refine L_q (Q_move rfl) rfl rfl rfl ?_
              refine L_q (Q_add rfl rfl (by first | exact IntWalk.i64_in _ (by omega) | exact IntWalk.u8_in _ (by omega) | exact IntWalk.u32_in _ (by omega) | exact IntWalk.u64_in _ (by omega) | rfl)) rfl rfl rfl ?_
              refine L_q (Q_assign rfl) rfl rfl rfl ?_
              refine JL_nil ?_
              exact loopQ_normal (i + 1, (j : Int)) ⟨hil, hnx.2 hlt⟩ (by simp only; omega) ⟨rfl, rfl, rfl, rfl, rfl, rfl, rfl, rfl, trivial⟩ (Ent.refl _)
        · refine J_skip ?_
          refine seqQ_normal ?_
          refine J_seq ?_
          refine J_block ?_
          refine J_seq ?_
          refine J_drawH [1,2,3] [0, 1, 2, 3, 4, 5, 6, 7, 8, 9, 10, 11, 12, 13, 14, 15, 16, 17, 18, 19, 20, 21, 22, 23, 24, 25, 26, 27, 28, 29, 30, 31, 32, 33] (.quiet 0 (.quiet 1 (.quiet 2 (.quiet 3 (.quiet 4 (.quiet 5 (.quiet 6 (.quiet 7 (.quiet 8 (.quiet 9 (.quiet 10 (.quiet 11 (.quiet 12 (.quiet 13 (.quiet 14 (.quiet 15 (.quiet 16 (.quiet 17 (.quiet 18 (.quiet 19 (.quiet 20 (.quiet 21 (.quiet 22 (.quiet 23 (.quiet 24 (.quiet 25 (.quiet 26 (.quiet 27 (.quiet 28 (.quiet 29 (.quiet 30 (.quiet 31 (.quiet 32 (.quiet 33 .done)))))))))))))))))))))))))))))))))) Try.mixed (by kernel_rfl) (by kernel_rfl) (by repeat (first | exact retQ_noP | refine seqQ_noP ?_ | refine blockQ_noP ?_ | refine loopQ_noP ?_ | refine scopeQ_noP ?_)) ?_
          refine S_q (Ent.re [1,2,3] rfl) rfl (Q_move rfl) rfl rfl rfl ?_
          refine S_q (Ent.re [1,2,3] rfl) rfl (Q_move rfl) rfl rfl rfl ?_
          refine S_q (Ent.re [1,2,3] rfl) rfl (Q_ixAt 0 i rfl rfl rfl rfl him rfl) rfl rfl rfl ?_
          refine S_q (Ent.re [1,2,3] rfl) rfl (Q_ldEAt 0 i 0 (v := .bool false) rfl rfl rfl rfl him (by decide) (by rw [hmg i hil, decide_eq_false hin]; rfl)) rfl rfl rfl ?_
          refine S_q (Ent.re [1,2,3] rfl) rfl ((Q_not rfl).as (v' := .bool true) rfl) rfl rfl rfl ?_
          refine S_q (Ent.re [1,2,3] rfl) rfl (Q_move rfl) rfl rfl rfl ?_
          refine S_q (Ent.re [1,2,3] rfl) rfl (Q_fa0 rfl) rfl rfl rfl ?_
          refine S_q (Ent.re [1,2,3] rfl) rfl (Q_ld 1 rfl rfl rfl rfl) rfl rfl rfl ?_
          refine S_q (Ent.re [1,2,3] rfl) rfl (Q_move rfl) rfl rfl rfl ?_
          refine S_q (Ent.re [1,2,3] rfl) rfl (Q_ixAt 2 i rfl rfl rfl rfl hil rfl) rfl rfl rfl ?_
          refine S_q (Ent.re [1,2,3] rfl) rfl (Q_pfa rfl) rfl rfl rfl ?_
          refine S_q (Ent.re [1,2,3] rfl) rfl (Q_ldEAt 2 i 0 (v := .int .i64 L[i].client) rfl rfl rfl rfl hil (by decide) rfl) rfl rfl rfl ?_
          refine S_q (Ent.re [1,2,3] rfl) rfl (Q_move rfl) rfl rfl rfl ?_
          refine S_q (Ent.re [1,2,3] rfl) rfl ((Q_eql rfl rfl).as (v' := .bool false) (congrArg Value.bool (decide_eq_false hcl))) rfl rfl rfl ?_
          refine S_q (Ent.re [1,2,3] rfl) rfl (Q_pickT rfl rfl) rfl rfl rfl ?_
          refine S_q (Ent.re [1,2,3] rfl) rfl (Q_move rfl) rfl rfl rfl ?_
          refine S_n (Ent.re [1,2,3] rfl) rfl rfl rfl rfl ?_
          refine S_n (Ent.re [1,2,3] rfl) rfl rfl rfl rfl ?_
          refine S_n (Ent.re [1,2,3] rfl) rfl rfl rfl rfl ?_
          refine S_n (Ent.re [1,2,3] rfl) rfl rfl rfl rfl ?_
          refine S_n (Ent.re [1,2,3] rfl) rfl rfl rfl rfl ?_
          refine S_n (Ent.re [1,2,3] rfl) rfl rfl rfl rfl ?_
          refine S_n (Ent.re [1,2,3] rfl) rfl rfl rfl rfl ?_
          refine S_n (Ent.re [1,2,3] rfl) rfl rfl rfl rfl ?_
          refine S_n (Ent.re [1,2,3] rfl) rfl rfl rfl rfl ?_
          refine S_n (Ent.re [1,2,3] rfl) rfl rfl rfl rfl ?_
          refine S_n (Ent.re [1,2,3] rfl) rfl rfl rfl rfl ?_
          refine S_n (Ent.re [1,2,3] rfl) rfl rfl rfl rfl ?_
          refine S_n (Ent.re [1,2,3] rfl) rfl rfl rfl rfl ?_
          refine S_n (Ent.re [1,2,3] rfl) rfl rfl rfl rfl ?_
          refine S_n (Ent.re [1,2,3] rfl) rfl rfl rfl rfl ?_
          refine S_n (Ent.re [1,2,3] rfl) rfl rfl rfl rfl ?_
          refine S_n (Ent.re [1,2,3] rfl) rfl rfl rfl rfl ?_
          refine S_q (Ent.re [1,2,3] rfl) rfl (Q_pickF rfl rfl) rfl rfl rfl ?_
          refine S_nil ?_
          refine seqQ_normal ?_
          refine J_condF rfl ?_
          refine J_skip ?_
          refine blockQ_normal ?_
          refine seqQ_normal ?_
          refine J_region ?_
          refine L_q (Q_move rfl) rfl rfl rfl ?_
          refine L_q (Q_add rfl rfl (by first | exact IntWalk.i64_in _ (by omega) | exact IntWalk.u8_in _ (by omega) | exact IntWalk.u32_in _ (by omega) | exact IntWalk.u64_in _ (by omega) | rfl)) rfl rfl rfl ?_
          refine L_q (Q_assign rfl) rfl rfl rfl ?_
          refine JL_nil ?_
          exact loopQ_normal (i + 1, b) ⟨hil, hB.skip hil fun h => hcl h.2⟩ (by simp only; omega) ⟨rfl, rfl, rfl, rfl, rfl, rfl, rfl, rfl, trivial⟩ (Ent.refl _)
      · obtain rfl : i = L.length := by omega
        have hol : o.length ≤ 600 := by omega
        rcases hB with ⟨rfl, hno⟩ | ⟨j, hj, rfl, hji, hcj, hbest⟩
        · rw [List.take_length] at hno
          have hs2 : (preK W r (c + 1)).take most.toNat = o := by
            rw [hs]
            by_cases hlm : o.length < most.toNat
            · rw [hsn (fun x hx => by rw [← hA hlm]; exact hno x hx), List.append_nil, ho]
            · rw [hfull hlm]
          refine J_exit ?_
          refine seqQ_exit ?_
          refine loopQ_exit ?_
          refine blockQ_hit ?_
          refine seqQ_normal ?_
          refine J_seq ?_
          refine J_region ?_
          refine L_q (Q_move rfl) rfl rfl rfl ?_
          refine L_q ((Q_geq rfl rfl).as (v' := .bool false) rfl) rfl rfl rfl ?_
          refine L_q (Q_move rfl) rfl rfl rfl ?_
          refine L_n rfl rfl rfl ?_
          refine L_n rfl rfl rfl ?_
          refine L_n rfl rfl rfl ?_
          refine L_n rfl rfl rfl ?_
          refine L_q (Q_pickF rfl rfl) rfl rfl rfl ?_
          refine JL_nil ?_
          refine seqQ_normal ?_
          refine J_condF rfl ?_
          refine J_skip ?_
          refine blockQ_normal ?_
          refine seqQ_normal ?_
          refine J_region ?_
          refine L_q (Q_move rfl) rfl rfl rfl ?_
          refine L_q (Q_add rfl rfl (by first | exact IntWalk.i64_in _ (by omega) | exact IntWalk.u8_in _ (by omega) | exact IntWalk.u32_in _ (by omega) | exact IntWalk.u64_in _ (by omega) | rfl)) rfl rfl rfl ?_
          refine L_q (Q_assign rfl) rfl rfl rfl ?_
          refine JL_nil ?_
          refine loopQ_normal (c + 1, O2) ⟨by simp only; omega, by simp only [hs2]; omega⟩ (by simp only; omega) ⟨rfl, rfl, rfl, rfl, rfl, rfl, trivial⟩ ?_
          simp only [hs2]
          exact Ent.refl _
        · rw [List.take_length] at hbest
          by_cases hlm : o.length < most.toNat
          · have hat := hss L[j] (List.getElem_mem hj) (by rw [← hA hlm]; exact hcj.1) hcj.2 (fun x hx hc2 => hbest x hx (by rw [← hA hlm] at hc2; exact hc2))
            have hs2 : (preK W r (c + 1)).take most.toNat = o ++ [L[j]] := by rw [hs, hat, hgrow L[j] hlm]
            have hjm : j < (L.map fun x => decide (x ∈ o)).length := by omega
            refine J_exit ?_
            refine seqQ_exit ?_
            refine loopQ_exit ?_
            refine blockQ_hit ?_
            refine seqQ_normal ?_
            refine J_seq ?_
            refine J_region ?_
            refine L_q (Q_move rfl) rfl rfl rfl ?_
            refine L_q ((Q_geq rfl rfl).as (v' := .bool true) (congrArg Value.bool (decide_eq_true (by omega)))) rfl rfl rfl ?_
            refine L_q (Q_move rfl) rfl rfl rfl ?_
            refine L_q (Q_move rfl) rfl rfl rfl ?_
            refine L_q (Q_lenAt 0 rfl rfl) rfl rfl rfl ?_
            refine L_q (Q_move rfl) rfl rfl rfl ?_
            refine L_q ((Q_lss rfl rfl).as (v' := .bool true) (congrArg Value.bool (decide_eq_true (by omega)))) rfl rfl rfl ?_
            refine L_q (Q_pickT rfl rfl) rfl rfl rfl ?_
            refine JL_nil ?_
            refine seqQ_normal ?_
            refine J_condT rfl ?_
            refine J_seq ?_
            refine J_region ?_
            refine L_q (Q_move rfl) rfl rfl rfl ?_
            refine L_q (Q_move rfl) rfl rfl rfl ?_
            refine L_q (Q_ixAt 1 j rfl rfl rfl rfl hjm rfl) rfl rfl rfl ?_
            refine L_s rfl rfl (O_stE 1 j 0 true rfl rfl rfl rfl rfl rfl (by simp [Value.oneCell', Value.cells]) hjm (by decide) rfl ?_)
            refine JL.norm ?_
            refine JL_nil ?_
            refine seqQ_normal ?_
            rw [taken_set hn j hj]
            refine J_region ?_
            refine L_q (Q_move rfl) rfl rfl rfl ?_
            refine L_q (Q_fa0 rfl) rfl rfl rfl ?_
            refine L_q (Q_ld 2 rfl rfl rfl rfl) rfl rfl rfl ?_
            refine L_q (Q_move rfl) rfl rfl rfl ?_
            refine L_q (Q_ixAt 3 j rfl rfl rfl rfl hj rfl) rfl rfl rfl ?_
            refine L_q (Q_ldEAAt 3 j 0 (vs := rqV L[j]) rfl rfl rfl rfl hj (by decide) rfl) rfl rfl rfl ?_
            refine L_o rfl rfl rfl (O_litP (τ := tRq) (m := 1) (sz := 6) [L[j]] rfl rfl rfl rfl rfl rfl (by decide) (fun U => ?_))
            refine JL.norm ?_
            refine L_o rfl rfl rfl (O_app (τ := tRq) 1 rfl (fun w h => h.rd 0 rfl) rfl rfl rfl rfl (by simp only [List.length_singleton]; omega) (by decide) (fun O3 => ?_))
            refine JL.norm ?_
            refine L_q (Q_assign rfl) rfl rfl rfl ?_
            refine JL_nil ?_
            refine blockQ_normal ?_
            refine seqQ_normal ?_
            refine J_region ?_
            refine L_q (Q_move rfl) rfl rfl rfl ?_
            refine L_q (Q_add rfl rfl (by first | exact IntWalk.i64_in _ (by omega) | exact IntWalk.u8_in _ (by omega) | exact IntWalk.u32_in _ (by omega) | exact IntWalk.u64_in _ (by omega) | rfl)) rfl rfl rfl ?_
            refine L_q (Q_assign rfl) rfl rfl rfl ?_
            refine JL_nil ?_
            refine loopQ_normal (c + 1, O3) ⟨by simp only; omega, by simp only [hs2, List.length_append, List.length_singleton]; omega⟩ (by simp only; omega) ⟨rfl, rfl, rfl, rfl, rfl, rfl, trivial⟩ ?_
            simp only [hs2]
            exact Ent.re [1, 2, 3, 4, 5] rfl
          · have hs2 : (preK W r (c + 1)).take most.toNat = o := by rw [hs, hfull hlm]
            refine J_exit ?_
            refine seqQ_exit ?_
            refine loopQ_exit ?_
            refine blockQ_hit ?_
            refine seqQ_normal ?_
            refine J_seq ?_
            refine J_region ?_
            refine L_q (Q_move rfl) rfl rfl rfl ?_
            refine L_q ((Q_geq rfl rfl).as (v' := .bool true) (congrArg Value.bool (decide_eq_true (by omega)))) rfl rfl rfl ?_
            refine L_q (Q_move rfl) rfl rfl rfl ?_
            refine L_q (Q_move rfl) rfl rfl rfl ?_
            refine L_q (Q_lenAt 0 rfl rfl) rfl rfl rfl ?_
            refine L_q (Q_move rfl) rfl rfl rfl ?_
            refine L_q ((Q_lss rfl rfl).as (v' := .bool false) (congrArg Value.bool (decide_eq_false (by omega)))) rfl rfl rfl ?_
            refine L_q (Q_pickT rfl rfl) rfl rfl rfl ?_
            refine JL_nil ?_
            refine seqQ_normal ?_
            refine J_condF rfl ?_
            refine J_skip ?_
            refine blockQ_normal ?_
            refine seqQ_normal ?_
            refine J_region ?_
            refine L_q (Q_move rfl) rfl rfl rfl ?_
            refine L_q (Q_add rfl rfl (by first | exact IntWalk.i64_in _ (by omega) | exact IntWalk.u8_in _ (by omega) | exact IntWalk.u32_in _ (by omega) | exact IntWalk.u64_in _ (by omega) | rfl)) rfl rfl rfl ?_
            refine L_q (Q_assign rfl) rfl rfl rfl ?_
            refine JL_nil ?_
            refine loopQ_normal (c + 1, O2) ⟨by simp only; omega, by simp only [hs2]; omega⟩ (by simp only; omega) ⟨rfl, rfl, rfl, rfl, rfl, rfl, trivial⟩ ?_
            simp only [hs2]
            exact Ent.refl _
    · obtain rfl : c = 16 := by omega
      rw [preK_end] at hO2 ⊢
      refine J_exit ?_
      refine seqQ_exit ?_
      refine loopQ_exit ?_
      refine blockQ_hit ?_
      refine blockQ_normal ?_
      refine seqQ_normal ?_
      refine J_region ?_
      refine L_q (Q_move rfl) rfl rfl rfl ?_
      refine L_q (Q_add rfl rfl (by first | exact IntWalk.i64_in _ (by omega) | exact IntWalk.u8_in _ (by omega) | exact IntWalk.u32_in _ (by omega) | exact IntWalk.u64_in _ (by omega) | rfl)) rfl rfl rfl ?_
      refine L_q (Q_assign rfl) rfl rfl rfl ?_
      refine JL_nil ?_
      exact loopQ_normal (r + 1, O2) ⟨hrl, by simp only; omega⟩ (by simp only; omega) ⟨rfl, rfl, rfl, rfl, rfl, trivial⟩ (Ent.refl _)
  · obtain rfl : r = L.length := by omega
    rw [preK_0, picks_len h]
    refine J_exit ?_
    refine seqQ_exit ?_
    refine loopQ_exit ?_
    refine blockQ_hit ?_
    refine seqQ_normal ?_
    refine J_seq ?_
    refine J_region ?_
    refine L_q (Q_move rfl) rfl rfl rfl ?_
    refine L_q (Q_assign rfl) rfl rfl rfl ?_
    refine JL_nil ?_
    refine seqQ_normal ?_
    refine J_ret ?_
    exact retQ_ret _ [slc tRq true S L, slc tRq true O (pickL W most)] (.cons (RV_tmp rfl) .nil) ⟨O, rfl, rfl⟩ (Ent.re [3, 0, 4] rfl)
end Go.Proofs
