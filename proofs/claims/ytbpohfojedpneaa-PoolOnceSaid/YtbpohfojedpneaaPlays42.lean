/- The law PoolPlays: its walk. -/
import Derived.Test.YtbpohfojedpneaaAw42
set_option autoImplicit false
namespace Go.Proofs
open Go.SL
theorem may_sh {r : Rq} (h : mayB r = true) : Sh r := by
  simp only [mayB, cmdB, kindB, Bool.and_eq_true, decide_eq_true_eq] at h
  have h2 := h.2.1.1
  split at h2
  · simp only [Bool.and_eq_true, decide_eq_true_eq] at h2
    exact ⟨by rw [h2.1]; simp, by omega⟩
  · split at h2
    · simp only [Bool.and_eq_true, decide_eq_true_eq] at h2
      exact ⟨by omega, by omega⟩
    · split at h2
      · simp only [Bool.and_eq_true, decide_eq_true_eq] at h2
        exact ⟨by rw [h2.1]; simp, by rw [h2.2]; simp⟩
      · cases h2
theorem pick_mem {W : Int → List Rq} {most : Int} {r : Rq} (h : r ∈ pickL W most) : ∃ k, (0 ≤ k ∧ k ≤ 15) ∧ r ∈ W k := by
  have h1 := List.mem_of_mem_take h
  unfold picksL at h1
  rw [List.mem_flatMap] at h1
  obtain ⟨q, _, h2⟩ := h1
  unfold rowL at h2
  rw [List.mem_flatMap] at h2
  obtain ⟨k, hk, h3⟩ := h2
  obtain ⟨hq, e⟩ := atR_mem h3
  exact ⟨k, (kx_mem k).1 hk, by rw [e]; exact List.getElem_mem hq⟩
theorem row_len (W : Int → List Rq) (r : Nat) : (rowL W r).length ≤ 16 := by
  have : ∀ l : List Int, (l.flatMap (atR W r)).length ≤ l.length := fun l => by
    induction l with
    | nil => simp
    | cons k l ih =>
      rw [List.flatMap_cons, List.length_append, List.length_cons]
      have : (atR W r k).length ≤ 1 := by unfold atR; cases (W k)[r]? <;> simp
      omega
  exact Nat.le_trans (this kx) (by simp)
theorem picks_64 (W : Int → List Rq) : (picksL W).length ≤ 64 := by
  have h : ∀ m, ((List.range m).flatMap (rowL W)).length ≤ 16 * m := fun m => by
    induction m with
    | zero => simp
    | succ m ih =>
      rw [List.range_succ, List.flatMap_append, List.length_append]
      have := row_len W m
      rw [List.flatMap_cons, List.flatMap_nil, List.append_nil]
      omega
  exact h 4
theorem pick_64 (W : Int → List Rq) (most : Int) : (pickL W most).length ≤ 64 := Nat.le_trans (List.length_take_le' _ _) (picks_64 W)
def XZ (X : Int → Int) : Prop := ∀ k, X k = 0 ∨ (0 ≤ k ∧ k ≤ 15)
theorem XZ.rdone {X : Int → Int} (h : XZ X) (l : List Rq) : XZ (rdoneX X l) := by
  induction l generalizing X with
  | nil => exact h
  | cons r l ih =>
    refine ih (X := if mayB r = true then upd X r.client (nxt X r) else X) fun k => ?_
    split
    · rename_i hb
      have := may_parts hb
      unfold upd
      split
      · rename_i e; subst e; exact .inr ⟨by omega, by omega⟩
      · exact h k
    · exact h k
attribute [local irreducible] J JL QOp JOp seqQ blockQ loopQ retQ slc cel hex star pur stars Does RV Ent pAt scopeQ
attribute [local irreducible] mpC starsE poolA
theorem plays42_calls (E : World) (T : SV) (l : List Dp) : Does Try.prog E 3 [T.v] [slc tDp false T l] fun v L => v = .bool true ∧ L = [] := by
  have hfew := fewP_ok E T l
  refine Does.of Try.func3 rfl Try.ntmps3 rfl rfl fun F => ?_
  refine J.norm ?_
  cases hb : fewP l with
  | false =>
    rw [hb] at hfew
    refine J_seq ?_
    refine J_region ?_
    refine L_q (Q_assign rfl) rfl rfl rfl ?_
    refine JL_nil ?_
    refine seqQ_normal ?_
    refine J_seq ?_
    refine J_seq ?_
    refine J_region ?_
    refine L_q (Q_move rfl) rfl rfl rfl ?_
    refine L_o rfl rfl rfl (O_call [0] [1] hfew rfl rfl ?_)
    rintro _ _ ⟨rfl, rfl⟩
    refine JL.norm ?_
    refine L_q ((Q_not rfl).as (v' := .bool true) rfl) rfl rfl rfl ?_
    refine JL_nil ?_
    refine seqQ_normal ?_
    refine J_condT rfl ?_
    refine J_seq ?_
    refine J_region ?_
    refine L_o rfl rfl rfl (O_call [] [0,1] (awake_ok E) rfl rfl ?_)
    rintro _ _ ⟨rfl, rfl⟩
    refine JL.norm ?_
    refine L_q (Q_assign rfl) rfl rfl rfl ?_
    refine JL_nil ?_
    refine seqQ_normal ?_
    refine J_ret ?_
    refine seqQ_ret ?_
    exact retQ_ret _ [] (.cons (RV_tmp rfl) .nil) ⟨rfl, rfl⟩ (Ent.re [1] rfl)
  | true =>
  rw [hb] at hfew
  obtain ⟨hl100, hsh⟩ := fewP_text hb
  refine J_seq ?_
  refine J_region ?_
  refine L_q (Q_assign rfl) rfl rfl rfl ?_
  refine JL_nil ?_
  refine seqQ_normal ?_
  refine J_seq ?_
  refine J_seq ?_
  refine J_region ?_
  refine L_q (Q_move rfl) rfl rfl rfl ?_
  refine L_o rfl rfl rfl (O_call [0] [1] hfew rfl rfl ?_)
  rintro _ _ ⟨rfl, rfl⟩
  refine JL.norm ?_
  refine L_q ((Q_not rfl).as (v' := .bool false) rfl) rfl rfl rfl ?_
  refine JL_nil ?_
  refine seqQ_normal ?_
  refine J_condF rfl ?_
  refine J_skip ?_
  refine seqQ_normal ?_
  refine J_seq ?_
  refine J_region ?_
  refine L_o rfl rfl rfl (O_call [] [0,1] (pnew_ok E) rfl rfl ?_)
  rintro _ _ ⟨p, rfl, rfl⟩
  refine JL.norm ?_
  refine L_o rfl rfl rfl (O_call [] [0,1,2] (rnew_ok E) rfl rfl ?_)
  rintro _ _ ⟨rfl, rfl⟩
  refine JL.norm ?_
  refine L_o rfl rfl rfl (O_alloc fun b4 => ?_)
  refine L_q (Q_assign rfl) rfl rfl rfl ?_
  refine L_s rfl rfl (O_stW 0 rfl rfl rfl rfl ?_)
  refine JL.norm ?_
  refine JL_nil ?_
  refine seqQ_normal ?_
  refine J_seq ?_
  refine J_seq ?_
  refine J_region ?_
  refine L_q (Q_assign rfl) rfl rfl rfl ?_
  refine JL_nil ?_
  refine seqQ_normal ?_
  refine J_block ?_
  refine J.ent (Ent.mk fun _ _ h => (h.lay_nil tRq true : Sat _ _ (slc tRq true SV.nil [] :: _))) ?_
  refine J_loop (fun i : Nat × (Int → List Rq) × (Int → Int) × Nat × List Rq × SV => i.1 ≤ l.length ∧ PR i.2.1 i.2.2.1 i.2.2.2.1 i.2.2.2.2.1 ∧ XZ i.2.2.1)
    (fun i => [(0, T.v), (3, .pointer (some ⟨p, 0, none⟩)), (4, .pointer (some ⟨b4, 0, none⟩)), (5, .int .i64 (i.1 : Int))])
    (fun i => [poolA p i.2.1 i.2.2.1 i.2.2.2.1, cel b4 (refC i.2.2.2.2.2 i.2.2.1) 30, slc tRq true i.2.2.2.2.2 i.2.2.2.2.1, slc tDp false T l, F]) (fun i => l.length - i.1) (0, W0, X0, 0, [], SV.nil) ⟨by simp, PR.new, fun _ => .inl rfl⟩ ⟨rfl, rfl, rfl, rfl, trivial⟩ (Ent.re [2, 1, 0, 3, 4] rfl) ?_
  rintro ⟨k, W, X, n, L, S⟩ ⟨hk, hR, hz⟩
  dsimp only at hk hR hz ⊢
  have hn32 := hR.pw.n32
  have hnL := hR.n_eq
  refine J_seq ?_
  refine J_seq ?_
  refine J_region ?_
  refine L_q (Q_move rfl) rfl rfl rfl ?_
  refine L_q (Q_move rfl) rfl rfl rfl ?_
  refine L_q (Q_lenAt 3 rfl rfl) rfl rfl rfl ?_
  refine L_q (Q_lss rfl rfl) rfl rfl rfl ?_
  refine JL_nil ?_
  refine seqQ_normal ?_
  refine J_condD rfl (fun h => ?_) (fun h => ?_)
  · have hlt : k < l.length := by omega
    have hs := (hsh l[k] (List.getElem_mem hlt)).sh
    refine J_skip ?_
    refine seqQ_normal ?_
    refine J_seq ?_
    refine J_block ?_
    refine J_seq ?_
    refine J_seq ?_
    refine J_region ?_
    refine L_q (Q_move rfl) rfl rfl rfl ?_
    refine L_q (Q_move rfl) rfl rfl rfl ?_
    refine L_q (Q_ixAt 3 k rfl rfl rfl rfl hlt rfl) rfl rfl rfl ?_
    refine L_q (Q_ldEAAt 3 k 0 (vs := dpV l[k]) rfl rfl rfl rfl hlt (by decide) rfl) rfl rfl rfl ?_
    refine L_o rfl rfl rfl (O_alloc fun b6 => ?_)
    refine L_s rfl rfl (O_stW 0 rfl rfl rfl rfl ?_)
    refine JL.norm ?_
    refine JL_nil ?_
    refine seqQ_normal ?_
    refine J_seq ?_
    refine J_region ?_
    refine L_q (Q_fa0 rfl) rfl rfl rfl ?_
    refine L_q (Q_ld 0 rfl rfl rfl rfl) rfl rfl rfl ?_
    refine JL_nil ?_
    refine seqQ_normal ?_
    refine J_block ?_
    refine J_seq ?_
    refine J.cut (fun e ρ' L' => e = .normal ∧ ∃ W2 X2 n2 L2 S2, PR W2 X2 n2 L2 ∧ XZ X2 ∧ envSub [(0, T.v), (3, .pointer (some ⟨p, 0, none⟩)), (4, .pointer (some ⟨b4, 0, none⟩)), (5, .int .i64 (k : Int))] ρ' ∧ Ent L' [poolA p W2 X2 n2, cel b4 (refC S2 X2) 30, slc tRq true S2 L2, slc tDp false T l, F]) ?_ ?_
    · by_cases c1 : l[k].kind = 1
      · have hsl : ∀ r ∈ [l[k].r], Sh r := fun r hr => by rw [List.mem_singleton] at hr; rw [hr]; exact hs
        have hd := fun U => done_ok E p n W X true U [l[k].r] hR.pw hsl (by simp)
        have hrd := fun U => rdone_ok E S U X L [l[k].r] true hsl (by simp) (by omega) hR.pw.xr hR.rng
        obtain ⟨hx, hR2⟩ := hR.done [l[k].r]
        rw [hx] at hd
        have hz2 := hz.rdone [l[k].r]
        have hn2 := hR2.n_eq
        generalize (doneF (W, X, n) [l[k].r]).1 = W2 at *
        generalize (doneF (W, X, n) [l[k].r]).2.2 = n2 at *
        generalize rdoneX X [l[k].r] = X2 at *
        generalize rdoneL L X2 = L2 at *
        subst hn2 hnL
        refine J_region ?_
        refine L_q ((Q_eql rfl rfl).as (v' := .bool true) (congrArg Value.bool (decide_eq_true c1))) rfl rfl rfl ?_
        refine L_q (Q_assign rfl) rfl rfl rfl ?_
        refine JL_nil ?_
        refine seqQ_normal ?_
        refine J_condT rfl ?_
        refine J_seq ?_
        refine J_region ?_
        refine L_q (Q_ldA 2 rfl rfl rfl) rfl rfl rfl ?_
        refine L_q (Q_fa0 rfl) rfl rfl rfl ?_
        refine L_q (Q_ldA 0 rfl rfl rfl) rfl rfl rfl ?_
        refine L_o rfl rfl rfl (O_litP (τ := tRq) (m := 1) (sz := 6) [l[k].r] rfl rfl rfl rfl rfl rfl (by decide) (fun U => ?_))
        refine JL.norm ?_
        refine L_o rfl rfl rfl (O_call [4,0] [1,2,3,5,6] (hrd U) rfl rfl ?_)
        rintro _ _ ⟨S2, rfl, rfl⟩
        refine JL.norm ?_
        refine L_q (Q_move rfl) rfl rfl rfl ?_
        refine L_q (Q_extract (v := refP S2 X2) rfl rfl) rfl rfl rfl ?_
        refine L_q (Q_extract (v := .int .i64 ((L.length : Int) - (L2.length : Int))) rfl rfl) rfl rfl rfl ?_
        refine L_o rfl rfl rfl (O_alloc fun b7 => ?_)
        refine L_s rfl rfl (O_stW 0 rfl rfl rfl rfl ?_)
        refine JL.norm ?_
        refine L_q (Q_assign rfl) rfl rfl rfl ?_
        refine JL_nil ?_
        refine seqQ_normal ?_
        refine J_seq ?_
        refine J_region ?_
        refine L_q (Q_ldA 0 rfl rfl rfl) rfl rfl rfl ?_
        refine L_s rfl rfl (O_stW 5 rfl rfl rfl rfl ?_)
        refine JL.norm ?_
        refine JL_nil ?_
        refine seqQ_normal ?_
        refine J_seq ?_
        refine J_region ?_
        refine L_q (Q_move rfl) rfl rfl rfl ?_
        refine L_q (Q_fa0 rfl) rfl rfl rfl ?_
        refine L_q (Q_ldA 3 rfl rfl rfl) rfl rfl rfl ?_
        refine L_o rfl rfl rfl (O_litP (τ := tRq) (m := 1) (sz := 6) [l[k].r] rfl rfl rfl rfl rfl rfl (by decide) (fun U2 => ?_))
        refine JL.norm ?_
        refine L_o rfl rfl rfl (O_call [5,0] [1,2,3,4,6,7,8] (hd U2) rfl rfl ?_)
        rintro _ _ ⟨rfl, rfl⟩
        refine JL.norm ?_
        refine L_q (Q_move rfl) rfl rfl rfl ?_
        refine L_q ((Q_neq rfl rfl).as (v' := .bool false) (congrArg Value.bool (decide_eq_false (by simp)))) rfl rfl rfl ?_
        refine JL_nil ?_
        refine seqQ_normal ?_
        refine J_condF rfl ?_
        refine J_skip ?_
        refine blockQ_normal ?_
        exact ⟨rfl, W2, X2, L2.length, L2, S2, hR2, hz2, ⟨rfl, rfl, rfl, rfl, trivial⟩, Ent.re [0, 6, 3, 7, 8] rfl⟩
      by_cases c2 : l[k].kind = 2
      · have hpk := pick_ok E p n W X l[k].n hR.pw
        have hrpk := rpick_ok E S X W n L l[k].n hR
        have hm : ∀ r ∈ pickL W l[k].n, Sh r := fun r hr => by
          obtain ⟨j, _, hj⟩ := pick_mem hr
          exact may_sh (hR.pw.own j r hj).2
        have h64 := pick_64 W l[k].n
        have hd := fun U => done_ok E p n W X true U (pickL W l[k].n) hR.pw hm (by omega)
        have hrd := fun U => rdone_ok E S U X L (pickL W l[k].n) true hm (by omega) (by omega) hR.pw.xr hR.rng
        obtain ⟨hx, hR2⟩ := hR.done (pickL W l[k].n)
        rw [hx] at hd
        have hz2 := hz.rdone (pickL W l[k].n)
        have hn2 := hR2.n_eq
        have hsm := fun U V => rsame_ok E true true U V (pickL W l[k].n) (pickL W l[k].n) (by omega)
        rw [decide_eq_true rfl] at hsm
        generalize (doneF (W, X, n) (pickL W l[k].n)).1 = W2 at *
        generalize (doneF (W, X, n) (pickL W l[k].n)).2.2 = n2 at *
        generalize rdoneX X (pickL W l[k].n) = X2 at *
        generalize rdoneL L X2 = L2 at *
        generalize pickL W l[k].n = pk at *
        subst hn2 hnL
        refine J_region ?_
        refine L_q ((Q_eql rfl rfl).as (v' := .bool false) (congrArg Value.bool (decide_eq_false c1))) rfl rfl rfl ?_
        refine L_q (Q_assign rfl) rfl rfl rfl ?_
        refine JL_nil ?_
        refine seqQ_normal ?_
        refine J_condF rfl ?_
        refine J_seq ?_
        refine J_region ?_
        refine L_q ((Q_eql rfl rfl).as (v' := .bool true) (congrArg Value.bool (decide_eq_true c2))) rfl rfl rfl ?_
        refine L_q (Q_assign rfl) rfl rfl rfl ?_
        refine JL_nil ?_
        refine seqQ_normal ?_
        refine J_condT rfl ?_
        refine J_seq ?_
        refine J_region ?_
        refine L_q (Q_ldA 2 rfl rfl rfl) rfl rfl rfl ?_
        refine L_q (Q_fa0 rfl) rfl rfl rfl ?_
        refine L_q (Q_ld 0 rfl rfl rfl rfl) rfl rfl rfl ?_
        refine L_o rfl rfl rfl (O_call [3] [0,1,2,4,5] hrpk rfl rfl ?_)
        rintro _ _ ⟨O, rfl, rfl⟩
        refine JL.norm ?_
        refine L_q (Q_assign rfl) rfl rfl rfl ?_
        refine JL_nil ?_
        refine seqQ_normal ?_
        refine J_seq ?_
        refine J_region ?_
        refine L_q (Q_ldA 4 rfl rfl rfl) rfl rfl rfl ?_
        refine L_q (Q_move rfl) rfl rfl rfl ?_
        refine L_o rfl rfl rfl (O_call [0,1] [2,3,4,5,6] (hrd O) rfl rfl ?_)
        rintro _ _ ⟨S2, rfl, rfl⟩
        refine JL.norm ?_
        refine L_q (Q_move rfl) rfl rfl rfl ?_
        refine L_q (Q_extract (v := refP S2 X2) rfl rfl) rfl rfl rfl ?_
        refine L_q (Q_extract (v := .int .i64 ((L.length : Int) - (L2.length : Int))) rfl rfl) rfl rfl rfl ?_
        refine L_o rfl rfl rfl (O_alloc fun b10 => ?_)
        refine L_s rfl rfl (O_stW 0 rfl rfl rfl rfl ?_)
        refine JL.norm ?_
        refine L_q (Q_assign rfl) rfl rfl rfl ?_
        refine JL_nil ?_
        refine seqQ_normal ?_
        refine J_seq ?_
        refine J_region ?_
        refine L_q (Q_ldA 0 rfl rfl rfl) rfl rfl rfl ?_
        refine L_s rfl rfl (O_stW 5 rfl rfl rfl rfl ?_)
        refine JL.norm ?_
        refine JL_nil ?_
        refine seqQ_normal ?_
        refine J_seq ?_
        refine J_region ?_
        refine L_q (Q_move rfl) rfl rfl rfl ?_
        refine L_q (Q_fa0 rfl) rfl rfl rfl ?_
        refine L_q (Q_ld 3 rfl rfl rfl rfl) rfl rfl rfl ?_
        refine L_o rfl rfl rfl (O_call [4] [0,1,2,3,5,6,7] hpk rfl rfl ?_)
        rintro _ _ ⟨O2, rfl, rfl⟩
        refine JL.norm ?_
        refine L_q (Q_assign rfl) rfl rfl rfl ?_
        refine JL_nil ?_
        refine seqQ_normal ?_
        refine J_seq ?_
        refine J_region ?_
        refine L_q (Q_move rfl) rfl rfl rfl ?_
        refine L_q (Q_move rfl) rfl rfl rfl ?_
        refine L_o rfl rfl rfl (O_call [1,4] [0,2,3,5,6,7,8] (hsm O2 O) rfl rfl ?_)
        rintro _ _ ⟨rfl, rfl⟩
        refine JL.norm ?_
        refine L_q ((Q_not rfl).as (v' := .bool false) rfl) rfl rfl rfl ?_
        refine L_q (Q_move rfl) rfl rfl rfl ?_
        refine L_q (Q_move rfl) rfl rfl rfl ?_
        refine L_q (Q_move rfl) rfl rfl rfl ?_
        refine L_o rfl rfl rfl (O_call [2,0] [1,3,4,5,6,7,8] (hd O2) rfl rfl ?_)
        rintro _ _ ⟨rfl, rfl⟩
        refine JL.norm ?_
        refine L_q (Q_move rfl) rfl rfl rfl ?_
        refine L_q ((Q_neq rfl rfl).as (v' := .bool false) (congrArg Value.bool (decide_eq_false (by simp)))) rfl rfl rfl ?_
        refine L_q (Q_pickF rfl rfl) rfl rfl rfl ?_
        refine JL_nil ?_
        refine seqQ_normal ?_
        refine J_condF rfl ?_
        refine J_skip ?_
        refine blockQ_normal ?_
        exact ⟨rfl, W2, X2, L2.length, L2, S2, hR2, hz2, ⟨rfl, rfl, rfl, rfl, trivial⟩, Ent.re [0, 6, 4, 7, 8] rfl⟩
      · have hp := put_ok E p n W X l[k].r hR.pw hs
        have hrp := rput_ok E S X L l[k].r hs (by omega) hR.pw.xr
        have hR2 := hR.put l[k].r
        rw [hR.putE] at hp
        generalize putW W X n l[k].r = W2 at *
        generalize putN W X n l[k].r = n2 at *
        generalize rputL L X l[k].r = L2 at *
        generalize rputE L X l[k].r = e2 at *
        refine J_region ?_
        refine L_q ((Q_eql rfl rfl).as (v' := .bool false) (congrArg Value.bool (decide_eq_false c1))) rfl rfl rfl ?_
        refine L_q (Q_assign rfl) rfl rfl rfl ?_
        refine JL_nil ?_
        refine seqQ_normal ?_
        refine J_condF rfl ?_
        refine J_seq ?_
        refine J_region ?_
        refine L_q ((Q_eql rfl rfl).as (v' := .bool false) (congrArg Value.bool (decide_eq_false c2))) rfl rfl rfl ?_
        refine L_q (Q_assign rfl) rfl rfl rfl ?_
        refine JL_nil ?_
        refine seqQ_normal ?_
        refine J_condF rfl ?_
        refine J_seq ?_
        refine J_region ?_
        refine L_q (Q_ldA 2 rfl rfl rfl) rfl rfl rfl ?_
        refine L_q (Q_fa0 rfl) rfl rfl rfl ?_
        refine L_q (Q_ldA 0 rfl rfl rfl) rfl rfl rfl ?_
        refine L_o rfl rfl rfl (O_call [3] [0,1,2,4,5] hrp rfl rfl ?_)
        rintro _ _ ⟨S2, rfl, rfl⟩
        refine JL.norm ?_
        refine L_q (Q_move rfl) rfl rfl rfl ?_
        refine L_q (Q_extract (v := refP S2 X) rfl rfl) rfl rfl rfl ?_
        refine L_q (Q_extract (v := .int .i64 e2) rfl rfl) rfl rfl rfl ?_
        refine L_o rfl rfl rfl (O_alloc fun b13 => ?_)
        refine L_s rfl rfl (O_stW 0 rfl rfl rfl rfl ?_)
        refine JL.norm ?_
        refine L_q (Q_assign rfl) rfl rfl rfl ?_
        refine JL_nil ?_
        refine seqQ_normal ?_
        refine J_seq ?_
        refine J_region ?_
        refine L_q (Q_ldA 0 rfl rfl rfl) rfl rfl rfl ?_
        refine L_s rfl rfl (O_stW 4 rfl rfl rfl rfl ?_)
        refine JL.norm ?_
        refine JL_nil ?_
        refine seqQ_normal ?_
        refine J_seq ?_
        refine J_region ?_
        refine L_q (Q_move rfl) rfl rfl rfl ?_
        refine L_q (Q_fa0 rfl) rfl rfl rfl ?_
        refine L_q (Q_ldA 2 rfl rfl rfl) rfl rfl rfl ?_
        refine L_o rfl rfl rfl (O_call [3] [0,1,2,4,5,6] hp rfl rfl ?_)
        rintro _ _ ⟨rfl, rfl⟩
        refine JL.norm ?_
        refine L_q (Q_move rfl) rfl rfl rfl ?_
        refine L_q ((Q_neq rfl rfl).as (v' := .bool false) (congrArg Value.bool (decide_eq_false (by simp)))) rfl rfl rfl ?_
        refine JL_nil ?_
        refine seqQ_normal ?_
        refine J_condF rfl ?_
        refine J_skip ?_
        refine blockQ_normal ?_
        exact ⟨rfl, W2, X, n2, L2, S2, hR2, hz, ⟨rfl, rfl, rfl, rfl, trivial⟩, Ent.re [0, 4, 2, 5, 6] rfl⟩
    · rintro _ ρ' L' ⟨rfl, W2, X2, n2, L2, S2, hR2, hz2, hsub, hent⟩
      refine seqQ_normal ?_
      refine J.sub hsub ?_
      refine J.ent hent ?_
      have hn2 := hR2.n_eq
      have hlast := plast_ok E p n2 W2 X2 l[k].r.client hR2.pw
      have hrl := rlast_ok E S2 X2 l[k].r.client (hz2 _)
      have hlen := plen_ok E p n2 W2 X2
      subst hn2
      refine J_seq ?_
      refine J_drawH [1,2,3] [0, 2, 3, 4, 5, 6, 7, 8, 9, 10, 11, 12, 13, 15, 16, 17, 18, 19, 20, 21, 23, 24] (.quiet 0 (.quiet 2 (.quiet 3 (.quiet 4 (.loud 1 (.quiet 5 (.quiet 6 (.quiet 7 (.quiet 8 (.quiet 9 (.quiet 10 (.quiet 11 (.quiet 12 (.quiet 13 (.quiet 15 (.quiet 16 (.quiet 17 (.quiet 18 (.quiet 19 (.quiet 20 (.quiet 21 (.loud 14 (.loud 22 (.quiet 23 (.quiet 24 .done))))))))))))))))))))))))) Try.mixed (by kernel_rfl) (by kernel_rfl) (by repeat (first | exact retQ_noP | refine seqQ_noP ?_ | refine blockQ_noP ?_ | refine loopQ_noP ?_ | refine scopeQ_noP ?_)) ?_
      refine S_q (Ent.re [1,2,3] rfl) rfl (Q_move rfl) rfl rfl rfl ?_
      refine S_q (Ent.re [1,2,3] rfl) rfl (Q_fa0 rfl) rfl rfl rfl ?_
      refine S_q (Ent.re [1,2,3] rfl) rfl (Q_ld 0 rfl rfl rfl rfl) rfl rfl rfl ?_
      refine S_q (Ent.re [1,2,3] rfl) rfl (Q_lenAt 1 rfl rfl) rfl rfl rfl ?_
      refine S_o rfl rfl rfl rfl (O_call [0] [1,2,3,4] hlen rfl rfl ?_)
      (rintro _ _ ⟨rfl, rfl⟩; refine ⟨_, fun _ => ⟨Ent.reN [1,2,3] rfl, Ent.refl _⟩, ?_⟩)
      refine JS.norm ?_
      refine S_q (Ent.re [1,2,3] rfl) rfl ((Q_neq rfl rfl).as (v' := .bool false) (congrArg Value.bool (decide_eq_false (by simp)))) rfl rfl rfl ?_
      refine S_q (Ent.re [1,2,3] rfl) rfl (Q_move rfl) rfl rfl rfl ?_
      refine S_q (Ent.re [1,2,3] rfl) rfl (Q_move rfl) rfl rfl rfl ?_
      refine S_q (Ent.re [1,2,3] rfl) rfl (Q_move rfl) rfl rfl rfl ?_
      refine S_q (Ent.re [1,2,3] rfl) rfl (Q_move rfl) rfl rfl rfl ?_
      refine S_q (Ent.re [1,2,3] rfl) rfl (Q_ixAt 2 k rfl rfl rfl rfl hlt rfl) rfl rfl rfl ?_
      refine S_q (Ent.re [1,2,3] rfl) rfl (Q_pfa rfl) rfl rfl rfl ?_
      refine S_q (Ent.re [1,2,3] rfl) rfl (Q_pfa rfl) rfl rfl rfl ?_
      refine S_q (Ent.re [1,2,3] rfl) rfl (Q_ldEAt 2 k 2 (v := .int .i64 l[k].r.client) rfl rfl rfl rfl hlt (by decide) rfl) rfl rfl rfl ?_
      refine S_q (Ent.re [1,2,3] rfl) rfl (Q_ldA 0 rfl rfl rfl) rfl rfl rfl ?_
      refine S_q (Ent.re [1,2,3] rfl) rfl (Q_move rfl) rfl rfl rfl ?_
      refine S_q (Ent.re [1,2,3] rfl) rfl (Q_move rfl) rfl rfl rfl ?_
      refine S_q (Ent.re [1,2,3] rfl) rfl (Q_ixAt 2 k rfl rfl rfl rfl hlt rfl) rfl rfl rfl ?_
      refine S_q (Ent.re [1,2,3] rfl) rfl (Q_pfa rfl) rfl rfl rfl ?_
      refine S_q (Ent.re [1,2,3] rfl) rfl (Q_pfa rfl) rfl rfl rfl ?_
      refine S_q (Ent.re [1,2,3] rfl) rfl (Q_ldEAt 2 k 2 (v := .int .i64 l[k].r.client) rfl rfl rfl rfl hlt (by decide) rfl) rfl rfl rfl ?_
      refine S_o rfl rfl rfl rfl (O_call [0] [1,2,3,4] hlast rfl rfl ?_)
      (rintro _ _ ⟨rfl, rfl⟩; refine ⟨_, fun _ => ⟨Ent.reN [1,2,3] rfl, Ent.refl _⟩, ?_⟩)
      refine JS.norm ?_
      refine S_o rfl rfl rfl rfl (O_call [] [0,1,2,3,4] hrl rfl rfl ?_)
      (rintro _ _ ⟨rfl, rfl⟩; refine ⟨_, fun _ => ⟨Ent.reN [1,2,3] rfl, Ent.refl _⟩, ?_⟩)
      refine JS.norm ?_
      refine S_q (Ent.re [1,2,3] rfl) rfl ((Q_neq rfl rfl).as (v' := .bool false) (congrArg Value.bool (decide_eq_false (by simp)))) rfl rfl rfl ?_
      refine S_q (Ent.re [1,2,3] rfl) rfl (Q_pickF rfl rfl) rfl rfl rfl ?_
      refine S_nil ?_
      refine seqQ_normal ?_
      refine J_condF rfl ?_
      refine J_skip ?_
      refine blockQ_normal ?_
      refine seqQ_normal ?_
      refine J_region ?_
      refine L_q (Q_move rfl) rfl rfl rfl ?_
      refine L_q (Q_add rfl rfl (by first | exact IntWalk.i64_in _ (by omega) | exact IntWalk.u8_in _ (by omega) | exact IntWalk.u32_in _ (by omega) | exact IntWalk.u64_in _ (by omega) | rfl)) rfl rfl rfl ?_
      refine L_q (Q_assign rfl) rfl rfl rfl ?_
      refine JL_nil ?_
      exact loopQ_normal (k + 1, W2, X2, L2.length, L2, S2) ⟨hlt, hR2, hz2⟩ (by simp only; omega) ⟨rfl, rfl, rfl, rfl, trivial⟩ (Ent.refl _)
  · have hpk := pick_ok E p n W X 100 hR.pw
    have hrpk := rpick_ok E S X W n L 100 hR
    have h64 := pick_64 W 100
    have hsm := fun U V => rsame_ok E true true U V (pickL W 100) (pickL W 100) (by omega)
    rw [decide_eq_true rfl] at hsm
    generalize pickL W 100 = pk at *
    refine J_exit ?_
    refine seqQ_exit ?_
    refine loopQ_exit ?_
    refine blockQ_hit ?_
    refine seqQ_normal ?_
    refine J_seq ?_
    refine J_drawH [1] [0, 2, 5, 7, 8] (.quiet 0 (.quiet 2 (.loud 1 (.loud 3 (.loud 4 (.quiet 5 (.loud 6 (.quiet 7 (.quiet 8 .done))))))))) Try.mixed (by kernel_rfl) (by kernel_rfl) (by repeat (first | exact retQ_noP | refine seqQ_noP ?_ | refine blockQ_noP ?_ | refine loopQ_noP ?_ | refine scopeQ_noP ?_)) ?_
    refine S_q (Ent.re [1] rfl) rfl (Q_move rfl) rfl rfl rfl ?_
    refine S_q (Ent.re [1] rfl) rfl (Q_ldA 0 rfl rfl rfl) rfl rfl rfl ?_
    refine S_o rfl rfl rfl rfl (O_call [0] [1,2,3,4] hpk rfl rfl ?_)
    (rintro _ _ ⟨O, rfl, rfl⟩; refine ⟨_, fun _ => ⟨Ent.reN [2] rfl, Ent.refl _⟩, ?_⟩)
    refine JS.norm ?_
    refine S_o rfl rfl rfl rfl (O_call [3] [0,1,2,4,5] hrpk rfl rfl ?_)
    (rintro _ _ ⟨O2, rfl, rfl⟩; refine ⟨_, fun _ => ⟨Ent.reN [4] rfl, Ent.refl _⟩, ?_⟩)
    refine JS.norm ?_
    refine S_o rfl rfl rfl rfl (O_call [3,1] [0,2,4,5,6] (hsm O O2) rfl rfl ?_)
    (rintro _ _ ⟨rfl, rfl⟩; refine ⟨_, fun _ => ⟨Ent.reN [4] rfl, Ent.refl _⟩, ?_⟩)
    refine JS.norm ?_
    refine S_q (Ent.re [4] rfl) rfl (Q_move rfl) rfl rfl rfl ?_
    refine S_o rfl rfl rfl rfl (O_call [] [0,1,2,3,4,5,6] (awake_ok E) rfl rfl ?_)
    (rintro _ _ ⟨rfl, rfl⟩; refine ⟨_, fun _ => ⟨Ent.reN [4] rfl, Ent.refl _⟩, ?_⟩)
    refine JS.norm ?_
    refine S_q (Ent.re [4] rfl) rfl (Q_pickT rfl rfl) rfl rfl rfl ?_
    refine S_q (Ent.re [4] rfl) rfl (Q_assign rfl) rfl rfl rfl ?_
    refine S_nil ?_
    refine seqQ_normal ?_
    refine J_ret ?_
    exact retQ_ret _ [] (.cons (RV_tmp rfl) .nil) ⟨rfl, rfl⟩ (Ent.re [6] rfl)
end Go.Proofs
