/- The law PoolOnce: its walk. -/
import Derived.Test.YtbpohfojedpneaaPlays42
set_option autoImplicit false
namespace Go.Proofs
open Go.SL
theorem putW_no {W : Int → List Rq} {X : Int → Int} {n : Nat} {r : Rq} (h : putE W X n r ≠ 0) : putW W X n r = W := by unfold putW; rw [if_neg h]
theorem putN_no {W : Int → List Rq} {X : Int → Int} {n : Nat} {r : Rq} (h : putE W X n r ≠ 0) : putN W X n r = n := by unfold putN; rw [if_neg h]
theorem put_again {W : Int → List Rq} {X : Int → Int} {n : Nat} {r : Rq} (h : putE W X n r = 0) : putE (putW W X n r) X (putN W X n r) r ≠ 0 := by
  intro h2
  have := (putE_0 h2).2.2.2.1
  rw [putW, if_pos h] at this
  have h3 := fndR_f this r (by simp only [upd, if_true]; exact (insR_mem _ _ _).2 (.inl rfl))
  exact h3 rfl
theorem put_done (s : PSt) (r : Rq) : putE (done1 s r).1 (done1 s r).2.1 (done1 s r).2.2 r ≠ 0 := by
  intro h
  obtain ⟨h1, _, _, _, h5⟩ := putE_0 h
  rw [done1_yes h1] at h5
  simp only [upd, if_true, nxt] at h5
  omega
theorem own_append (a b : List Rq) (c : Int) : ownN (a ++ b) c = ownN a c + ownN b c := by simp [ownN]
theorem own_flat {f : Int → List Rq} (hf : ∀ k, ∀ r ∈ f k, r.client = k) (c : Int) : ∀ l : List Int, l.Nodup → ownN (l.flatMap f) c = if c ∈ l then (f c).length else 0
  | [], _ => by simp [ownN]
  | k :: l, hn => by
    rw [List.nodup_cons] at hn
    rw [List.flatMap_cons, own_append, own_flat hf c l hn.2]
    by_cases e : k = c
    · subst e
      have h1 : ownN (f k) k = (f k).length := by
        unfold ownN; rw [List.filter_eq_self.2 fun r hr => decide_eq_true (hf k r hr)]
      rw [h1, if_neg hn.1, if_pos (by simp)]; omega
    · have h1 : ownN (f k) c = 0 := by
        unfold ownN
        rw [List.filter_eq_nil_iff.2 fun r hr => by
          have := hf k r hr
          simp; omega]; rfl
      have h2 : c ∈ k :: l ↔ c ∈ l := by
        rw [List.mem_cons]
        exact ⟨fun h => h.resolve_left fun h => e h.symm, .inr⟩
      rw [h1, Nat.zero_add]
      by_cases h3 : c ∈ l
      · rw [if_pos h3, if_pos (h2.2 h3)]
      · rw [if_neg h3, if_neg fun h => h3 (h2.1 h)]
theorem kx_nodup : kx.Nodup := up_nodup kx_up
theorem own_row {W : Int → List Rq} {X : Int → Int} {n : Nat} (h : PW W X n) (r : Nat) {c : Int} (hc : 0 ≤ c ∧ c ≤ 15) : ownN (rowL W r) c = if r < (W c).length then 1 else 0 := by
  unfold rowL
  rw [own_flat (f := atR W r) (fun k x hx => by
    obtain ⟨hq, e⟩ := atR_mem hx
    rw [e]; exact (h.own k _ (List.getElem_mem hq)).1) c kx kx_nodup, if_pos ((kx_mem c).2 hc)]
  unfold atR
  by_cases hr : r < (W c).length
  · rw [List.getElem?_eq_getElem hr, if_pos hr]; rfl
  · rw [List.getElem?_eq_none (by omega), if_neg hr]; rfl
theorem own_rows {W : Int → List Rq} {X : Int → Int} {n : Nat} (h : PW W X n) {c : Int} (hc : 0 ≤ c ∧ c ≤ 15) : ∀ m, ownN ((List.range m).flatMap (rowL W)) c = min m (W c).length
  | 0 => by simp [ownN]
  | m + 1 => by
    rw [List.range_succ, List.flatMap_append, own_append, own_rows h hc m, List.flatMap_cons, List.flatMap_nil, List.append_nil, own_row h m hc]
    split <;> omega
theorem own_picks {W : Int → List Rq} {X : Int → Int} {n : Nat} (h : PW W X n) {c : Int} (hc : 0 ≤ c ∧ c ≤ 15) : ownN (picksL W) c = (W c).length := by
  have := own_rows h hc 4
  have h4 := h.len c
  unfold picksL
  omega
theorem picks_rng {W : Int → List Rq} {X : Int → Int} {n : Nat} (h : PW W X n) : ∀ r ∈ picksL W, ∃ k, (0 ≤ k ∧ k ≤ 15) ∧ r ∈ W k ∧ r.client = k := by
  intro r hr
  have h2 : r ∈ pickL W 64 := by
    show r ∈ List.take 64 (picksL W)
    rw [List.take_of_length_le (picks_64 W)]; exact hr
  obtain ⟨k, hk, hm⟩ := pick_mem h2
  exact ⟨k, hk, hm, (h.own k r hm).1⟩
theorem picks_n {W : Int → List Rq} {X : Int → Int} {n : Nat} (h : PW W X n) : (picksL W).length = n := by
  rw [← sum_own (picksL W) (fun r hr => by obtain ⟨k, hk, _, e⟩ := picks_rng h r hr; rw [e]; exact hk), h.sum]
  unfold sumW
  congr 1
  refine List.map_congr_left fun k hk => ?_
  have := List.mem_range.1 hk
  exact own_picks h (by omega)
theorem pick_all {W : Int → List Rq} : pickL W 100 = picksL W := List.take_of_length_le (by have := picks_64 W; show _ ≤ 100; omega)
theorem own_take (l : List Rq) (m : Nat) (c : Int) : ownN (l.take m) c ≤ ownN l c := ((List.take_sublist m l).filter _).length_le
def cntV (l : List Rq) : List Value := (List.range 16).map fun i => .int .i64 (ownN l (i : Nat) : Int)
theorem cntV_get (l : List Rq) (j : Nat) (h : j < 16) : (cntV l)[j]? = some (.int .i64 (ownN l (j : Nat) : Int)) := by
  rw [cntV, List.getElem?_map, List.getElem?_range h]; rfl
theorem cntV_step (l : List Rq) (i j : Nat) (hi : i < l.length) (hj : l[i].client = (j : Int)) (h16 : j < 16) : SetV (cntV (l.take i)) j (.int .i64 ((ownN (l.take i) (j : Int) : Int) + 1)) (cntV (l.take (i + 1))) := by
  refine ⟨?_, by simp [cntV]; exact h16⟩
  unfold cntV
  apply List.ext_getElem?
  intro k
  rw [List.getElem?_set, List.getElem?_map, List.getElem?_map]
  by_cases hk : k < 16
  · rw [List.getElem?_range hk]
    simp only [List.length_map, List.length_range, Option.map_some]
    rw [ownN_succ l (k : Nat) i hi]
    by_cases e : j = k
    · subst e; simp [h16, hj]
    · rw [if_neg e, if_neg (by omega)]; rfl
  · rw [List.getElem?_eq_none (by simpa using hk)]
    have : j ≠ k := by omega
    simp [this]
theorem cntV_nil (l : List Rq) : cntV (l.take 0) = [.int .i64 0, .int .i64 0, .int .i64 0, .int .i64 0, .int .i64 0, .int .i64 0, .int .i64 0, .int .i64 0, .int .i64 0, .int .i64 0, .int .i64 0, .int .i64 0, .int .i64 0, .int .i64 0, .int .i64 0, .int .i64 0] := rfl
theorem _root_.Go.SL.J.cut0 {P : Program} {E : World} {n : Nat} {c d : Code} {Q : Post} {ρ : Env} {L : List HProp} (M : Post) (h : J P E n c (seqQ P E n d M) ρ L) (hq : ∀ e ρ L, M e ρ L → Q e ρ L) : J P E n c (seqQ P E n d Q) ρ L := by
  refine h.mono fun e ρ L he => ?_
  cases e with
  | normal => exact J.mono (show J P E n d M ρ L from he) hq
  | _ => simp only [seqQ] at he ⊢; exact hq _ _ _ he
theorem _root_.Go.SL.J.cutS {P : Program} {E : World} {n : Nat} {c d d' : Code} {Q : Post} {ρ : Env} {L : List HProp} (M : Post) (h : J P E n c (seqQ P E n d M) ρ L) (hq : ∀ e ρ L, M e ρ L → seqQ P E n d' Q e ρ L) : J P E n c (seqQ P E n (.seq d d') Q) ρ L := by
  refine h.mono fun e ρ L he => ?_
  cases e with
  | normal => exact J_seq (J.mono (show J P E n d M ρ L from he) hq)
  | _ => simp only [seqQ] at he hq ⊢; exact hq _ _ _ he
attribute [local irreducible] J JL QOp JOp seqQ blockQ loopQ retQ slc cel hex star pur stars Does RV Ent pAt scopeQ
attribute [local irreducible] mpC starsE poolA
theorem once42_calls (E : World) (T : SV) (l : List Dp) : Does Try.prog E 4 [T.v] [slc tDp false T l] fun v L => v = .bool true ∧ L = [] := by
  have hfew := fewP_ok E T l
  refine Does.of Try.func4 rfl Try.ntmps4 rfl rfl fun F => ?_
  refine J.norm ?_
  cases hb : fewP l with
  | false =>
    rw [hb] at hfew
    refine J_seq ?_
    refine J_region ?_
    refine L_q (Q_assign rfl) rfl rfl rfl ?_
    refine JL_nil ?_
    refine seqQ_normal ?_
    refine J_seq ?_
    refine J_seq ?_
    refine J_region ?_
    refine L_q (Q_move rfl) rfl rfl rfl ?_
    refine L_o rfl rfl rfl (O_call [0] [1] hfew rfl rfl ?_)
    rintro _ _ ⟨rfl, rfl⟩
    refine JL.norm ?_
    refine L_q ((Q_not rfl).as (v' := .bool true) rfl) rfl rfl rfl ?_
    refine JL_nil ?_
    refine seqQ_normal ?_
    refine J_condT rfl ?_
    refine J_seq ?_
    refine J_region ?_
    refine L_o rfl rfl rfl (O_call [] [0,1] (awake_ok E) rfl rfl ?_)
    rintro _ _ ⟨rfl, rfl⟩
    refine JL.norm ?_
    refine L_q (Q_assign rfl) rfl rfl rfl ?_
    refine JL_nil ?_
    refine seqQ_normal ?_
    refine J_ret ?_
    refine seqQ_ret ?_
    exact retQ_ret _ [] (.cons (RV_tmp rfl) .nil) ⟨rfl, rfl⟩ (Ent.re [1] rfl)
  | true =>
  rw [hb] at hfew
  obtain ⟨hl100, hsh⟩ := fewP_text hb
  refine J_seq ?_
  refine J_region ?_
  refine L_q (Q_assign rfl) rfl rfl rfl ?_
  refine JL_nil ?_
  refine seqQ_normal ?_
  refine J_seq ?_
  refine J_seq ?_
  refine J_region ?_
  refine L_q (Q_move rfl) rfl rfl rfl ?_
  refine L_o rfl rfl rfl (O_call [0] [1] hfew rfl rfl ?_)
  rintro _ _ ⟨rfl, rfl⟩
  refine JL.norm ?_
  refine L_q ((Q_not rfl).as (v' := .bool false) rfl) rfl rfl rfl ?_
  refine JL_nil ?_
  refine seqQ_normal ?_
  refine J_condF rfl ?_
  refine J_skip ?_
  refine seqQ_normal ?_
  refine J_seq ?_
  refine J_region ?_
  refine L_o rfl rfl rfl (O_call [] [0,1] (pnew_ok E) rfl rfl ?_)
  rintro _ _ ⟨p, rfl, rfl⟩
  refine JL.norm ?_
  refine L_q (Q_assign rfl) rfl rfl rfl ?_
  refine JL_nil ?_
  refine seqQ_normal ?_
  refine J_seq ?_
  refine J_seq ?_
  refine J_region ?_
  refine L_q (Q_assign rfl) rfl rfl rfl ?_
  refine JL_nil ?_
  refine seqQ_normal ?_
  refine J_block ?_
  refine J_loop (fun i : Nat × (Int → List Rq) × (Int → Int) × Nat × List Rq => i.1 ≤ l.length ∧ PR i.2.1 i.2.2.1 i.2.2.2.1 i.2.2.2.2)
    (fun i => [(0, T.v), (3, .pointer (some ⟨p, 0, none⟩)), (4, .int .i64 (i.1 : Int))])
    (fun i => [poolA p i.2.1 i.2.2.1 i.2.2.2.1, slc tDp false T l, F]) (fun i => l.length - i.1) (0, W0, X0, 0, []) ⟨by simp, PR.new⟩ ⟨rfl, rfl, rfl, trivial⟩ (Ent.refl _) ?_
  rintro ⟨k, W, X, n, L⟩ ⟨hk, hR⟩
  dsimp only at hk hR ⊢
  refine J_seq ?_
  refine J_seq ?_
  refine J_region ?_
  refine L_q (Q_move rfl) rfl rfl rfl ?_
  refine L_q (Q_move rfl) rfl rfl rfl ?_
  refine L_q (Q_lenAt 1 rfl rfl) rfl rfl rfl ?_
  refine L_q (Q_lss rfl rfl) rfl rfl rfl ?_
  refine JL_nil ?_
  refine seqQ_normal ?_
  refine J_condD rfl (fun h => ?_) (fun h => ?_)
  · have hlt : k < l.length := by omega
    have hs := (hsh l[k] (List.getElem_mem hlt)).sh
    have hp1 := put_ok E p n W X l[k].r hR.pw hs
    have hR2 := hR.put l[k].r
    have hp2 := put_ok E p _ _ X l[k].r hR2.pw hs
    have hag := put_again (W := W) (X := X) (n := n) (r := l[k].r)
    have hn2 := hR2.pw.n32
    have hlen := plen_ok E p (putN W X n l[k].r) (putW W X n l[k].r) X
    have hd := fun U => done_ok E p (putN W X n l[k].r) (putW W X n l[k].r) X true U [l[k].r] hR2.pw (fun r hr => by rw [List.mem_singleton] at hr; rw [hr]; exact hs) (by simp)
    obtain ⟨hx, hR3⟩ := hR2.done [l[k].r]
    rw [← hx] at hR3
    have hp3 := put_ok E p _ _ _ l[k].r hR3.pw hs
    have hno : putE (doneF (putW W X n l[k].r, X, putN W X n l[k].r) [l[k].r]).1 (doneF (putW W X n l[k].r, X, putN W X n l[k].r) [l[k].r]).2.1 (doneF (putW W X n l[k].r, X, putN W X n l[k].r) [l[k].r]).2.2 l[k].r ≠ 0 := put_done (putW W X n l[k].r, X, putN W X n l[k].r) l[k].r
    rw [putW_no hno, putN_no hno] at hp3
    clear hx
    generalize doneF (putW W X n l[k].r, X, putN W X n l[k].r) [l[k].r] = s3 at *
    generalize rdoneL (rputL L X l[k].r) s3.2.1 = L3 at *
    generalize rputL L X l[k].r = L2 at *
    have hpp : putE W X n l[k].r = 0 → Does Try.prog E 17 [.pointer (some ⟨p, 0, none⟩), .agg (rqV l[k].r).toArray] [poolA p (putW W X n l[k].r) X (putN W X n l[k].r)] fun v L => v = .int .i64 (putE (putW W X n l[k].r) X (putN W X n l[k].r) l[k].r) ∧ L = [poolA p (putW W X n l[k].r) X (putN W X n l[k].r)] := fun h0 => by
      have h1 := hag h0
      rw [putW_no h1, putN_no h1] at hp2
      exact hp2
    clear hp2
    generalize putE (putW W X n l[k].r) X (putN W X n l[k].r) l[k].r = e2 at *
    generalize putE s3.1 s3.2.1 s3.2.2 l[k].r = e3 at *
    generalize putW W X n l[k].r = W2 at *
    generalize putN W X n l[k].r = n2 at *
    generalize putE W X n l[k].r = e1 at *
    refine J_skip ?_
    refine seqQ_normal ?_
    refine J_seq ?_
    refine J_block ?_
    refine J_seq ?_
    refine J_region ?_
    refine L_q (Q_move rfl) rfl rfl rfl ?_
    refine L_q (Q_move rfl) rfl rfl rfl ?_
    refine L_q (Q_ixAt 1 k rfl rfl rfl rfl hlt rfl) rfl rfl rfl ?_
    refine L_q (Q_pfa rfl) rfl rfl rfl ?_
    refine L_q (Q_ldEAAt 1 k 2 (vs := rqV l[k].r) rfl rfl rfl rfl hlt (by decide) rfl) rfl rfl rfl ?_
    refine L_o rfl rfl rfl (O_alloc fun b5 => ?_)
    refine L_s rfl rfl (O_stW 0 rfl rfl rfl rfl ?_)
    refine JL.norm ?_
    refine JL_nil ?_
    refine seqQ_normal ?_
    refine J_seq ?_
    refine J_seq ?_
    refine J.cut0 (fun e ρ' L' => e = .normal ∧ envSub [(0, T.v), (3, .pointer (some ⟨p, 0, none⟩)), (4, .int .i64 (k : Int)), (5, .pointer (some ⟨b5, 0, none⟩))] ρ' ∧ L' = [poolA p W2 X n2, cel b5 (rqV l[k].r) 35, slc tDp false T l, F]) ?_ ?_
    · by_cases h1 : e1 = 0
      · have h2 := hag h1
        refine J_region ?_
        refine L_q (Q_move rfl) rfl rfl rfl ?_
        refine L_q (Q_ldA 0 rfl rfl rfl) rfl rfl rfl ?_
        refine L_o rfl rfl rfl (O_call [1] [0,2,3] hp1 rfl rfl ?_)
        rintro _ _ ⟨rfl, rfl⟩
        refine JL.norm ?_
        refine L_q ((Q_eql rfl rfl).as (v' := .bool true) (congrArg Value.bool (decide_eq_true h1))) rfl rfl rfl ?_
        refine L_q (Q_move rfl) rfl rfl rfl ?_
        refine L_q (Q_move rfl) rfl rfl rfl ?_
        refine L_q (Q_ldA 1 rfl rfl rfl) rfl rfl rfl ?_
        refine L_o rfl rfl rfl (O_call [0] [1,2,3] (hpp h1) rfl rfl ?_)
        rintro _ _ ⟨rfl, rfl⟩
        refine JL.norm ?_
        refine L_q ((Q_eql rfl rfl).as (v' := .bool false) (congrArg Value.bool (decide_eq_false h2))) rfl rfl rfl ?_
        refine L_q (Q_pickT rfl rfl) rfl rfl rfl ?_
        refine L_q (Q_move rfl) rfl rfl rfl ?_
        refine L_q (Q_move rfl) rfl rfl rfl ?_
        refine L_o rfl rfl rfl (O_call [0] [1,2,3] hlen rfl rfl ?_)
        rintro _ _ ⟨rfl, rfl⟩
        refine JL.norm ?_
        refine L_q ((Q_gtr rfl rfl).as (v' := .bool false) (congrArg Value.bool (decide_eq_false (by omega)))) rfl rfl rfl ?_
        refine L_q (Q_pickF rfl rfl) rfl rfl rfl ?_
        refine JL_nil ?_
        refine seqQ_normal ?_
        refine J_condF rfl ?_
        refine J_skip ?_
        exact ⟨rfl, ⟨rfl, rfl, rfl, rfl, trivial⟩, rfl⟩
      · skip
        refine J_region ?_
        refine L_q (Q_move rfl) rfl rfl rfl ?_
        refine L_q (Q_ldA 0 rfl rfl rfl) rfl rfl rfl ?_
        refine L_o rfl rfl rfl (O_call [1] [0,2,3] hp1 rfl rfl ?_)
        rintro _ _ ⟨rfl, rfl⟩
        refine JL.norm ?_
        refine L_q ((Q_eql rfl rfl).as (v' := .bool false) (congrArg Value.bool (decide_eq_false h1))) rfl rfl rfl ?_
        refine L_q (Q_move rfl) rfl rfl rfl ?_
        refine L_n rfl rfl rfl ?_
        refine L_n rfl rfl rfl ?_
        refine L_n rfl rfl rfl ?_
        refine L_n rfl rfl rfl ?_
        refine L_q (Q_pickF rfl rfl) rfl rfl rfl ?_
        refine L_q (Q_move rfl) rfl rfl rfl ?_
        refine L_q (Q_move rfl) rfl rfl rfl ?_
        refine L_o rfl rfl rfl (O_call [0] [1,2,3] hlen rfl rfl ?_)
        rintro _ _ ⟨rfl, rfl⟩
        refine JL.norm ?_
        refine L_q ((Q_gtr rfl rfl).as (v' := .bool false) (congrArg Value.bool (decide_eq_false (by omega)))) rfl rfl rfl ?_
        refine L_q (Q_pickF rfl rfl) rfl rfl rfl ?_
        refine JL_nil ?_
        refine seqQ_normal ?_
        refine J_condF rfl ?_
        refine J_skip ?_
        exact ⟨rfl, ⟨rfl, rfl, rfl, rfl, trivial⟩, rfl⟩
    rintro _ ρ' L' ⟨rfl, hsub, rfl⟩
    refine seqQ_normal ?_
    refine J.sub hsub ?_
    by_cases c1 : l[k].kind = 1
    · refine J_seq ?_
      refine J_region ?_
      refine L_q (Q_move rfl) rfl rfl rfl ?_
      refine L_q (Q_move rfl) rfl rfl rfl ?_
      refine L_q (Q_ixAt 2 k rfl rfl rfl rfl hlt rfl) rfl rfl rfl ?_
      refine L_q (Q_pfa rfl) rfl rfl rfl ?_
      refine L_q (Q_ldEAt 2 k 0 (v := .int .i64 l[k].kind) rfl rfl rfl rfl hlt (by decide) rfl) rfl rfl rfl ?_
      refine L_q ((Q_eql rfl rfl).as (v' := .bool true) (congrArg Value.bool (decide_eq_true c1))) rfl rfl rfl ?_
      refine JL_nil ?_
      refine seqQ_normal ?_
      refine J_condT rfl ?_
      refine J_seq ?_
      refine J_region ?_
      refine L_q (Q_move rfl) rfl rfl rfl ?_
      refine L_q (Q_ldA 1 rfl rfl rfl) rfl rfl rfl ?_
      refine L_o rfl rfl rfl (O_litP (τ := tRq) (m := 1) (sz := 6) [l[k].r] rfl rfl rfl rfl rfl rfl (by decide) (fun U => ?_))
      refine JL.norm ?_
      refine L_o rfl rfl rfl (O_call [1,0] [2,3,4] (hd U) rfl rfl ?_)
      rintro _ _ ⟨rfl, rfl⟩
      refine JL.norm ?_
      refine JL_nil ?_
      refine seqQ_normal ?_
      refine J_seq ?_
      refine J_region ?_
      refine L_q (Q_move rfl) rfl rfl rfl ?_
      refine L_q (Q_ldA 2 rfl rfl rfl) rfl rfl rfl ?_
      refine L_o rfl rfl rfl (O_call [0] [1,2,3,4] hp3 rfl rfl ?_)
      rintro _ _ ⟨rfl, rfl⟩
      refine JL.norm ?_
      refine L_q ((Q_eql rfl rfl).as (v' := .bool false) (congrArg Value.bool (decide_eq_false hno))) rfl rfl rfl ?_
      refine JL_nil ?_
      refine seqQ_normal ?_
      refine J_condF rfl ?_
      refine J_skip ?_
      refine blockQ_normal ?_
      refine seqQ_normal ?_
      refine J_region ?_
      refine L_q (Q_move rfl) rfl rfl rfl ?_
      refine L_q (Q_add rfl rfl (by first | exact IntWalk.i64_in _ (by omega) | exact IntWalk.u8_in _ (by omega) | exact IntWalk.u32_in _ (by omega) | exact IntWalk.u64_in _ (by omega) | rfl)) rfl rfl rfl ?_
      refine L_q (Q_assign rfl) rfl rfl rfl ?_
      refine JL_nil ?_
      exact loopQ_normal (k + 1, s3.1, s3.2.1, s3.2.2, L3) ⟨hlt, hR3⟩ (by simp only; omega) ⟨rfl, rfl, rfl, trivial⟩ (Ent.re [0, 3, 4] rfl)
    · refine J_seq ?_
      refine J_region ?_
      refine L_q (Q_move rfl) rfl rfl rfl ?_
      refine L_q (Q_move rfl) rfl rfl rfl ?_
      refine L_q (Q_ixAt 2 k rfl rfl rfl rfl hlt rfl) rfl rfl rfl ?_
      refine L_q (Q_pfa rfl) rfl rfl rfl ?_
      refine L_q (Q_ldEAt 2 k 0 (v := .int .i64 l[k].kind) rfl rfl rfl rfl hlt (by decide) rfl) rfl rfl rfl ?_
      refine L_q ((Q_eql rfl rfl).as (v' := .bool false) (congrArg Value.bool (decide_eq_false c1))) rfl rfl rfl ?_
      refine JL_nil ?_
      refine seqQ_normal ?_
      refine J_condF rfl ?_
      refine J_skip ?_
      refine blockQ_normal ?_
      refine seqQ_normal ?_
      refine J_region ?_
      refine L_q (Q_move rfl) rfl rfl rfl ?_
      refine L_q (Q_add rfl rfl (by first | exact IntWalk.i64_in _ (by omega) | exact IntWalk.u8_in _ (by omega) | exact IntWalk.u32_in _ (by omega) | exact IntWalk.u64_in _ (by omega) | rfl)) rfl rfl rfl ?_
      refine L_q (Q_assign rfl) rfl rfl rfl ?_
      refine JL_nil ?_
      exact loopQ_normal (k + 1, W2, X, n2, L2) ⟨hlt, hR2⟩ (by simp only; omega) ⟨rfl, rfl, rfl, trivial⟩ (Ent.re [0, 2, 3] rfl)
  have hpk := pick_ok E p n W X 100 hR.pw
  rw [pick_all] at hpk
  have h64 := picks_64 W
  have hpn := picks_n hR.pw
  have hrng := picks_rng hR.pw
  have hown := fun c => own_picks (c := c) hR.pw
  have hlast := fun c => plast_ok E p n W X c hR.pw
  have hlen := plen_ok E p n W X
  have h4 := hR.pw.len
  generalize picksL W = all at *
  refine J_exit ?_
  refine seqQ_exit ?_
  refine loopQ_exit ?_
  refine blockQ_hit ?_
  refine seqQ_normal ?_
  refine J_seq ?_
  refine J_region ?_
  refine L_q (Q_move rfl) rfl rfl rfl ?_
  refine L_o rfl rfl rfl (O_call [0] [1,2] hpk rfl rfl ?_)
  rintro _ _ ⟨O, rfl, rfl⟩
  refine JL.norm ?_
  refine L_q (Q_assign rfl) rfl rfl rfl ?_
  refine JL_nil ?_
  refine seqQ_normal ?_
  refine J_seq ?_
  refine J_region ?_
  refine L_o rfl rfl rfl (O_alloc fun b7 => ?_)
  refine JL_nil ?_
  refine seqQ_normal ?_
  refine J_seq ?_
  refine J_seq ?_
  refine J_region ?_
  refine L_q (Q_assign rfl) rfl rfl rfl ?_
  refine JL_nil ?_
  refine seqQ_normal ?_
  refine J_block ?_
  refine J_loop (fun i : Nat => i ≤ all.length) (fun i => [(3, .pointer (some ⟨p, 0, none⟩)), (6, O.v), (7, .pointer (some ⟨b7, 0, none⟩)), (8, .int .i64 (i : Int))])
    (fun i => [cel b7 (cntV (all.take i)) 28, poolA p W X n, slc tRq true O all, slc tDp false T l, F]) (fun i => all.length - i) 0 (Nat.zero_le _) ⟨rfl, rfl, rfl, rfl, trivial⟩ (Ent.mk fun _ _ h => by simp only [cntV_nil]; exact h) ?_
  intro i hi
  refine J_seq ?_
  refine J_seq ?_
  refine J_region ?_
  refine L_q (Q_move rfl) rfl rfl rfl ?_
  refine L_q (Q_move rfl) rfl rfl rfl ?_
  refine L_q (Q_lenAt 2 rfl rfl) rfl rfl rfl ?_
  refine L_q (Q_lss rfl rfl) rfl rfl rfl ?_
  refine JL_nil ?_
  refine seqQ_normal ?_
  refine J_condD rfl (fun h5 => ?_) (fun h5 => ?_)
  · have hil : i < all.length := by omega
    obtain ⟨c, hc, hm, hcl⟩ := hrng all[i] (List.getElem_mem hil)
    have hge := hR.ge c _ hm
    have hl := hlast c
    obtain ⟨j, rfl⟩ : ∃ j : Nat, c = (j : Int) := ⟨c.toNat, by omega⟩
    have hj : j < 16 := by omega
    have hset := cntV_step all i j hil hcl hj
    have hg1 := cntV_get (all.take i) j hj
    have hg2 := cntV_get (all.take (i + 1)) j hj
    have o1 := own_take all i (j : Int)
    have o2 := own_take all (i + 1) (j : Int)
    have o3 := hown (j : Int) (by omega)
    have o4 := h4 (j : Int)
    refine J_skip ?_
    refine seqQ_normal ?_
    refine J_seq ?_
    refine J_block ?_
    refine J_seq ?_
    refine J_region ?_
    refine L_q (Q_move rfl) rfl rfl rfl ?_
    refine L_q (Q_move rfl) rfl rfl rfl ?_
    refine L_q (Q_ixAt 2 i rfl rfl rfl rfl hil rfl) rfl rfl rfl ?_
    refine L_q (Q_pfa rfl) rfl rfl rfl ?_
    refine L_q (Q_ldEAt 2 i 0 (v := .int .i64 (j : Int)) rfl rfl rfl rfl hil (by decide) (by rw [← hcl]; rfl)) rfl rfl rfl ?_
    refine L_q (Q_assign rfl) rfl rfl rfl ?_
    refine JL_nil ?_
    refine seqQ_normal ?_
    refine J_seq ?_
    refine J_seq ?_
    refine J_drawH [2] [0, 1, 2, 3, 4, 5, 6, 7, 8, 9, 10, 11, 12, 13, 15, 16] (.quiet 0 (.quiet 1 (.quiet 2 (.quiet 3 (.quiet 4 (.quiet 5 (.quiet 6 (.quiet 7 (.quiet 8 (.quiet 9 (.quiet 10 (.quiet 11 (.quiet 12 (.quiet 13 (.loud 14 (.quiet 15 (.quiet 16 .done))))))))))))))))) Try.mixed (by kernel_rfl) (by kernel_rfl) (by repeat (first | exact retQ_noP | refine seqQ_noP ?_ | refine blockQ_noP ?_ | refine loopQ_noP ?_ | refine scopeQ_noP ?_)) ?_
    refine S_q (Ent.re [2] rfl) rfl (Q_move rfl) rfl rfl rfl ?_
    refine S_q (Ent.re [2] rfl) rfl ((Q_lss rfl rfl).as (v' := .bool false) (congrArg Value.bool (decide_eq_false (by omega)))) rfl rfl rfl ?_
    refine S_q (Ent.re [2] rfl) rfl (Q_move rfl) rfl rfl rfl ?_
    refine S_q (Ent.re [2] rfl) rfl (Q_move rfl) rfl rfl rfl ?_
    refine S_q (Ent.re [2] rfl) rfl ((Q_gtr rfl rfl).as (v' := .bool false) (congrArg Value.bool (decide_eq_false (by omega)))) rfl rfl rfl ?_
    refine S_q (Ent.re [2] rfl) rfl (Q_pickF rfl rfl) rfl rfl rfl ?_
    refine S_q (Ent.re [2] rfl) rfl (Q_move rfl) rfl rfl rfl ?_
    refine S_q (Ent.re [2] rfl) rfl (Q_move rfl) rfl rfl rfl ?_
    refine S_q (Ent.re [2] rfl) rfl (Q_move rfl) rfl rfl rfl ?_
    refine S_q (Ent.re [2] rfl) rfl (Q_ixAt 0 i rfl rfl rfl rfl hil rfl) rfl rfl rfl ?_
    refine S_q (Ent.re [2] rfl) rfl (Q_pfa rfl) rfl rfl rfl ?_
    refine S_q (Ent.re [2] rfl) rfl (Q_ldEAt 0 i 1 (v := .int .i64 all[i].seq) rfl rfl rfl rfl hil (by decide) rfl) rfl rfl rfl ?_
    refine S_q (Ent.re [2] rfl) rfl (Q_move rfl) rfl rfl rfl ?_
    refine S_q (Ent.re [2] rfl) rfl (Q_move rfl) rfl rfl rfl ?_
    refine S_o rfl rfl rfl rfl (O_call [1] [0,2,3,4] hl rfl rfl ?_)
    (rintro _ _ ⟨rfl, rfl⟩; refine ⟨_, fun _ => ⟨Ent.reN [2] rfl, Ent.refl _⟩, ?_⟩)
    refine JS.norm ?_
    refine S_q (Ent.re [2] rfl) rfl ((Q_leq rfl rfl).as (v' := .bool false) (congrArg Value.bool (decide_eq_false (by omega)))) rfl rfl rfl ?_
    refine S_q (Ent.re [2] rfl) rfl (Q_pickF rfl rfl) rfl rfl rfl ?_
    refine S_nil ?_
    refine seqQ_normal ?_
    refine J_condF rfl ?_
    refine J_skip ?_
    refine seqQ_normal ?_
    refine J_seq ?_
    refine J_region ?_
    refine L_q (Q_move rfl) rfl rfl rfl ?_
    refine L_q (Q_ia (sz := 1) j rfl rfl rfl hj (show 0 + j * 1 = j by omega)) rfl rfl rfl ?_
    refine L_q (Q_ld 1 rfl rfl rfl hg1) rfl rfl rfl ?_
    refine L_q (Q_add rfl rfl (by first | exact IntWalk.i64_in _ (by omega) | exact IntWalk.u8_in _ (by omega) | exact IntWalk.u32_in _ (by omega) | exact IntWalk.u64_in _ (by omega) | rfl)) rfl rfl rfl ?_
    refine L_q (Q_ia (sz := 1) j rfl rfl rfl hj (show 0 + j * 1 = j by omega)) rfl rfl rfl ?_
    refine L_s rfl rfl (O_st1 1 rfl rfl rfl rfl rfl ?_)
    refine JL.norm ?_
    refine JL_nil ?_
    refine seqQ_normal ?_
    refine J_seq ?_
    refine J_region ?_
    refine L_q (Q_move rfl) rfl rfl rfl ?_
    refine L_q (Q_ia (sz := 1) j rfl rfl rfl hj (show 0 + j * 1 = j by omega)) rfl rfl rfl ?_
    refine L_q (Q_ld 1 rfl rfl rfl hg2) rfl rfl rfl ?_
    refine L_q ((Q_gtr rfl rfl).as (v' := .bool false) (congrArg Value.bool (decide_eq_false (by omega)))) rfl rfl rfl ?_
    refine JL_nil ?_
    refine seqQ_normal ?_
    refine J_condF rfl ?_
    refine J_skip ?_
    refine blockQ_normal ?_
    refine seqQ_normal ?_
    refine J_region ?_
    refine L_q (Q_move rfl) rfl rfl rfl ?_
    refine L_q (Q_add rfl rfl (by first | exact IntWalk.i64_in _ (by omega) | exact IntWalk.u8_in _ (by omega) | exact IntWalk.u32_in _ (by omega) | exact IntWalk.u64_in _ (by omega) | rfl)) rfl rfl rfl ?_
    refine L_q (Q_assign rfl) rfl rfl rfl ?_
    refine JL_nil ?_
    exact loopQ_normal (i + 1) hil (by omega) ⟨rfl, rfl, rfl, rfl, trivial⟩ (Ent.re [1, 0, 2, 3, 4] rfl)
  · refine J_exit ?_
    refine seqQ_exit ?_
    refine loopQ_exit ?_
    refine blockQ_hit ?_
    refine seqQ_normal ?_
    refine J_seq ?_
    refine J_region ?_
    refine L_q (Q_move rfl) rfl rfl rfl ?_
    refine L_q (Q_lenAt 2 rfl rfl) rfl rfl rfl ?_
    refine L_q (Q_move rfl) rfl rfl rfl ?_
    refine L_o rfl rfl rfl (O_call [1] [0,2,3,4] hlen rfl rfl ?_)
    rintro _ _ ⟨rfl, rfl⟩
    refine JL.norm ?_
    refine L_q ((Q_eql rfl rfl).as (v' := .bool true) (congrArg Value.bool (decide_eq_true (by omega)))) rfl rfl rfl ?_
    refine L_q (Q_move rfl) rfl rfl rfl ?_
    refine L_o rfl rfl rfl (O_call [] [0,1,2,3,4] (awake_ok E) rfl rfl ?_)
    rintro _ _ ⟨rfl, rfl⟩
    refine JL.norm ?_
    refine L_q (Q_pickT rfl rfl) rfl rfl rfl ?_
    refine L_q (Q_assign rfl) rfl rfl rfl ?_
    refine JL_nil ?_
    refine seqQ_normal ?_
    refine J_ret ?_
    exact retQ_ret _ [] (.cons (RV_tmp rfl) .nil) ⟨rfl, rfl⟩ (Ent.re [4] rfl)
end Go.Proofs
