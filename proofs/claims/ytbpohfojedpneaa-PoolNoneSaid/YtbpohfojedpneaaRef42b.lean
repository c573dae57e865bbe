/- The document's pool: put, done. -/
import Derived.Test.YtbpohfojedpneaaRef42a
set_option autoImplicit false
namespace Go.Proofs
open Go.SL
def ownN (L : List Rq) (c : Int) : Nat := (L.filter fun r => decide (r.client = c)).length
def dupB (L : List Rq) (r : Rq) : Bool := L.any fun x => decide (x.client = r.client ∧ x.seq = r.seq)
def rputE (L : List Rq) (X : Int → Int) (r : Rq) : Int :=
  if mayB r = true then (if 4 ≤ ownN L r.client ∨ 32 ≤ L.length then 7 else if dupB L r = true ∨ r.seq < X r.client then 8 else 0) else 1
def rputL (L : List Rq) (X : Int → Int) (r : Rq) : List Rq := if rputE L X r = 0 then L ++ [r] else L
theorem ownN_succ (L : List Rq) (c : Int) (k : Nat) (h : k < L.length) : ownN (L.take (k + 1)) c = ownN (L.take k) c + if L[k].client = c then 1 else 0 := by
  unfold ownN
  rw [List.take_succ_eq_append_getElem h, List.filter_append, List.length_append]
  congr 1
  by_cases e : L[k].client = c <;> simp [e]
theorem ownN_le (L : List Rq) (c : Int) : ownN L c ≤ L.length := List.length_filter_le _ _
def rdoneX (X : Int → Int) (l : List Rq) : Int → Int := l.foldl (fun X r => if mayB r = true then upd X r.client (nxt X r) else X) X
def rdoneL (L : List Rq) (X : Int → Int) : List Rq := L.filter fun r => decide (X r.client ≤ r.seq)
theorem rdoneX_succ (X : Int → Int) (l : List Rq) (k : Nat) (h : k < l.length) : rdoneX X (l.take (k + 1)) = if mayB l[k] = true then upd (rdoneX X (l.take k)) l[k].client (nxt (rdoneX X (l.take k)) l[k]) else rdoneX X (l.take k) := by
  unfold rdoneX; rw [List.take_succ_eq_append_getElem h, List.foldl_append]; rfl
theorem rdoneX_rng (X : Int → Int) (hX : ∀ k, 0 ≤ X k ∧ X k ≤ 2147483648) (l : List Rq) : ∀ k, 0 ≤ rdoneX X l k ∧ rdoneX X l k ≤ 2147483648 := by
  induction l generalizing X with
  | nil => exact hX
  | cons r l ih =>
    refine ih _ fun k => ?_
    dsimp only
    split
    · rename_i hb
      have := may_parts hb
      have := hX r.client
      have := hX k
      unfold upd nxt
      split <;> omega
    · exact hX k
attribute [local irreducible] J JL QOp JOp seqQ blockQ loopQ retQ slc cel hex star pur stars Does RV Ent pAt scopeQ
theorem rput_ok (E : World) (S : SV) (X : Int → Int) (L : List Rq) (r : Rq) (hr : Sh r) (hL : L.length ≤ 1000) (hX : ∀ k, 0 ≤ X k ∧ X k ≤ 2147483648) : Does Try.prog E 16 [refP S X, .agg (rqV r).toArray] [slc tRq true S L] fun v Lc => ∃ S' : SV, v = .tuple #[refP S' X, .int .i64 (rputE L X r)] ∧ Lc = [slc tRq true S' (rputL L X r)] := by
  have hmy := rmay_ok E r hr
  refine Does.of Try.func16 rfl Try.ntmps16 rfl rfl fun F => ?_
  refine J.norm ?_
  refine J_seq ?_
  refine J_region ?_
  refine L_o rfl rfl rfl (O_box rfl fun b2 => ?_)
  refine L_o rfl rfl rfl (O_box rfl fun b3 => ?_)
  refine L_o rfl rfl rfl (O_alloc fun b4 => ?_)
  refine L_q (Q_assign rfl) rfl rfl rfl ?_
  refine JL_nil ?_
  refine seqQ_normal ?_
  refine J_seq ?_
  refine J_seq ?_
  cases hb : mayB r with
  | false =>
    rw [hb] at hmy
    have e1 : rputE L X r = 1 := by simp [rputE, hb]
    have e2 : rputL L X r = L := by unfold rputL; rw [e1]; rfl
    rw [e1, e2]
    refine J_region ?_
    refine L_q (Q_ldA 1 rfl rfl rfl) rfl rfl rfl ?_
    refine L_o rfl rfl rfl (O_call [] [0,1,2,3,4] hmy rfl rfl ?_)
    rintro _ _ ⟨rfl, rfl⟩
    refine JL.norm ?_
    refine L_q (Q_not rfl) rfl rfl rfl ?_
    refine JL_nil ?_
    refine seqQ_normal ?_
    refine J_condT rfl ?_
    refine J_seq ?_
    refine J_region ?_
    refine L_q (Q_ldA 2 rfl rfl rfl) rfl rfl rfl ?_
    refine L_s rfl rfl (O_stW 0 rfl rfl rfl rfl ?_)
    refine JL.norm ?_
    refine L_q (Q_assign rfl) rfl rfl rfl ?_
    refine JL_nil ?_
    refine seqQ_normal ?_
    refine J_ret ?_
    refine seqQ_ret ?_
    exact retQ_ret _ [slc tRq true S L] (.cons (RV_cell 0 rfl rfl rfl rfl) (.cons (RV_tmp rfl) .nil)) ⟨S, rfl, rfl⟩ (Ent.re [3, 4] rfl)
  | true =>
  rw [hb] at hmy
  have hpt := may_parts hb
  obtain ⟨c, hc16, hcc⟩ : ∃ c : Nat, c < 16 ∧ r.client = (c : Int) := ⟨r.client.toNat, by omega, by omega⟩
  have hXc := hX r.client
  refine J_region ?_
  refine L_q (Q_ldA 1 rfl rfl rfl) rfl rfl rfl ?_
  refine L_o rfl rfl rfl (O_call [] [0,1,2,3,4] hmy rfl rfl ?_)
  rintro _ _ ⟨rfl, rfl⟩
  refine JL.norm ?_
  refine L_q (Q_not rfl) rfl rfl rfl ?_
  refine JL_nil ?_
  refine seqQ_normal ?_
  refine J_condF rfl ?_
  refine J_skip ?_
  refine seqQ_normal ?_
  refine J_seq ?_
  refine J_region ?_
  refine L_q (Q_assign rfl) rfl rfl rfl ?_
  refine JL_nil ?_
  refine seqQ_normal ?_
  refine J_seq ?_
  refine J_seq ?_
  refine J_region ?_
  refine L_q (Q_assign rfl) rfl rfl rfl ?_
  refine JL_nil ?_
  refine seqQ_normal ?_
  refine J_block ?_
  refine J_loop (fun k : Nat => k ≤ L.length) (fun k => [(2, .pointer (some ⟨b2, 0, none⟩)), (3, .pointer (some ⟨b3, 0, none⟩)), (4, .pointer (some ⟨b4, 0, none⟩)), (6, .int .i64 (ownN (L.take k) r.client : Int)), (7, .int .i64 (k : Int))])
    (fun _ => [cel b4 [.slice none 0 0, .int .i64 0, .int .i64 0, .int .i64 0, .int .i64 0, .int .i64 0, .int .i64 0, .int .i64 0, .int .i64 0, .int .i64 0, .int .i64 0, .int .i64 0, .int .i64 0, .int .i64 0, .int .i64 0, .int .i64 0, .int .i64 0] 30, cel b3 (rqV r) 35, cel b2 (refC S X) 30, slc tRq true S L, F]) (fun k => L.length - k) 0 (Nat.zero_le _) ⟨rfl, rfl, rfl, rfl, rfl, trivial⟩ (Ent.refl _) ?_
  intro k hk
  have hon := ownN_le (L.take k) r.client
  rw [List.length_take] at hon
  refine J_seq ?_
  refine J_seq ?_
  refine J_region ?_
  refine L_q (Q_move rfl) rfl rfl rfl ?_
  refine L_q (Q_fa0 rfl) rfl rfl rfl ?_
  refine L_q (Q_ld 2 rfl rfl rfl rfl) rfl rfl rfl ?_
  refine L_q (Q_lenAt 3 rfl rfl) rfl rfl rfl ?_
  refine L_q (Q_lss rfl rfl) rfl rfl rfl ?_
  refine JL_nil ?_
  refine seqQ_normal ?_
  refine J_condD rfl (fun h => ?_) (fun h => ?_)
  · have hlt : k < L.length := by omega
    have hs := ownN_succ L r.client k hlt
    by_cases he : L[k].client = r.client
    · rw [if_pos he] at hs
      refine J_skip ?_
      refine seqQ_normal ?_
      refine J_seq ?_
      refine J_block ?_
      refine J_seq ?_
      refine J_drawH [1,2,3] [0, 1, 2, 3, 4, 5, 6, 7, 8] (.quiet 0 (.quiet 1 (.quiet 2 (.quiet 3 (.quiet 4 (.quiet 5 (.quiet 6 (.quiet 7 (.quiet 8 .done))))))))) Try.mixed (by kernel_rfl) (by kernel_rfl) (by repeat (first | exact retQ_noP | refine seqQ_noP ?_ | refine blockQ_noP ?_ | refine loopQ_noP ?_ | refine scopeQ_noP ?_)) ?_
      refine S_q (Ent.re [1,2,3] rfl) rfl (Q_fa0 rfl) rfl rfl rfl ?_
      refine S_q (Ent.re [1,2,3] rfl) rfl (Q_ld 1 rfl rfl rfl rfl) rfl rfl rfl ?_
      refine S_q (Ent.re [1,2,3] rfl) rfl (Q_move rfl) rfl rfl rfl ?_
      refine S_q (Ent.re [1,2,3] rfl) rfl (Q_ixAt 2 k rfl rfl rfl rfl hlt rfl) rfl rfl rfl ?_
      refine S_q (Ent.re [1,2,3] rfl) rfl (Q_pfa rfl) rfl rfl rfl ?_
      refine S_q (Ent.re [1,2,3] rfl) rfl (Q_ldEAt 2 k 0 (v := .int .i64 L[k].client) rfl rfl rfl rfl hlt (by decide) rfl) rfl rfl rfl ?_
      refine S_q (Ent.re [1,2,3] rfl) rfl (Q_fa0 rfl) rfl rfl rfl ?_
      refine S_q (Ent.re [1,2,3] rfl) rfl (Q_ld 0 rfl rfl rfl rfl) rfl rfl rfl ?_
      refine S_q (Ent.re [1,2,3] rfl) rfl ((Q_eql rfl rfl).as (v' := .bool true) (congrArg Value.bool (decide_eq_true he))) rfl rfl rfl ?_
      refine S_nil ?_
      refine seqQ_normal ?_
      refine J_condT rfl ?_
      refine J_region ?_
      refine L_q (Q_move rfl) rfl rfl rfl ?_
      refine L_q (Q_add rfl rfl (by first | exact IntWalk.i64_in _ (by omega) | exact IntWalk.u8_in _ (by omega) | exact IntWalk.u32_in _ (by omega) | exact IntWalk.u64_in _ (by omega) | rfl)) rfl rfl rfl ?_
      refine L_q (Q_assign rfl) rfl rfl rfl ?_
      refine JL_nil ?_
      refine blockQ_normal ?_
      refine seqQ_normal ?_
      refine J_region ?_
      refine L_q (Q_move rfl) rfl rfl rfl ?_
      refine L_q (Q_add rfl rfl (by first | exact IntWalk.i64_in _ (by omega) | exact IntWalk.u8_in _ (by omega) | exact IntWalk.u32_in _ (by omega) | exact IntWalk.u64_in _ (by omega) | rfl)) rfl rfl rfl ?_
      refine L_q (Q_assign rfl) rfl rfl rfl ?_
      refine JL_nil ?_
      exact loopQ_normal (k + 1) hlt (by omega) ⟨rfl, rfl, rfl, by rw [hs]; rfl, rfl, trivial⟩ (Ent.refl _)
    · rw [if_neg he, Nat.add_zero] at hs
      refine J_skip ?_
      refine seqQ_normal ?_
      refine J_seq ?_
      refine J_block ?_
      refine J_seq ?_
      refine J_drawH [1,2,3] [0, 1, 2, 3, 4, 5, 6, 7, 8] (.quiet 0 (.quiet 1 (.quiet 2 (.quiet 3 (.quiet 4 (.quiet 5 (.quiet 6 (.quiet 7 (.quiet 8 .done))))))))) Try.mixed (by kernel_rfl) (by kernel_rfl) (by repeat (first | exact retQ_noP | refine seqQ_noP ?_ | refine blockQ_noP ?_ | refine loopQ_noP ?_ | refine scopeQ_noP ?_)) ?_
      refine S_q (Ent.re [1,2,3] rfl) rfl (Q_fa0 rfl) rfl rfl rfl ?_
      refine S_q (Ent.re [1,2,3] rfl) rfl (Q_ld 1 rfl rfl rfl rfl) rfl rfl rfl ?_
      refine S_q (Ent.re [1,2,3] rfl) rfl (Q_move rfl) rfl rfl rfl ?_
      refine S_q (Ent.re [1,2,3] rfl) rfl (Q_ixAt 2 k rfl rfl rfl rfl hlt rfl) rfl rfl rfl ?_
      refine S_q (Ent.re [1,2,3] rfl) rfl (Q_pfa rfl) rfl rfl rfl ?_
      refine S_q (Ent.re [1,2,3] rfl) rfl (Q_ldEAt 2 k 0 (v := .int .i64 L[k].client) rfl rfl rfl rfl hlt (by decide) rfl) rfl rfl rfl ?_
      refine S_q (Ent.re [1,2,3] rfl) rfl (Q_fa0 rfl) rfl rfl rfl ?_
      refine S_q (Ent.re [1,2,3] rfl) rfl (Q_ld 0 rfl rfl rfl rfl) rfl rfl rfl ?_
      refine S_q (Ent.re [1,2,3] rfl) rfl ((Q_eql rfl rfl).as (v' := .bool false) (congrArg Value.bool (decide_eq_false he))) rfl rfl rfl ?_
      refine S_nil ?_
      refine seqQ_normal ?_
      refine J_condF rfl ?_
      refine J_skip ?_
      refine blockQ_normal ?_
      refine seqQ_normal ?_
      refine J_region ?_
      refine L_q (Q_move rfl) rfl rfl rfl ?_
      refine L_q (Q_add rfl rfl (by first | exact IntWalk.i64_in _ (by omega) | exact IntWalk.u8_in _ (by omega) | exact IntWalk.u32_in _ (by omega) | exact IntWalk.u64_in _ (by omega) | rfl)) rfl rfl rfl ?_
      refine L_q (Q_assign rfl) rfl rfl rfl ?_
      refine JL_nil ?_
      exact loopQ_normal (k + 1) hlt (by omega) ⟨rfl, rfl, rfl, by rw [hs]; rfl, rfl, trivial⟩ (Ent.refl _)
  obtain rfl : k = L.length := by omega
  rw [List.take_length] at hon ⊢
  by_cases h7 : 4 ≤ ownN L r.client ∨ 32 ≤ L.length
  · have e1 : rputE L X r = 7 := by simp only [rputE, hb, if_true, if_pos h7]
    have e2 : rputL L X r = L := by unfold rputL; rw [e1]; rfl
    rw [e1, e2]
    by_cases h4 : 4 ≤ ownN L r.client
    · refine J_exit ?_
      refine seqQ_exit ?_
      refine loopQ_exit ?_
      refine blockQ_hit ?_
      refine seqQ_normal ?_
      refine J_seq ?_
      refine J_seq ?_
      refine J_region ?_
      refine L_q (Q_move rfl) rfl rfl rfl ?_
      refine L_q ((Q_geq rfl rfl).as (v' := .bool true) (congrArg Value.bool (decide_eq_true (by omega)))) rfl rfl rfl ?_
      refine L_q (Q_move rfl) rfl rfl rfl ?_
      refine L_n rfl rfl rfl ?_
      refine L_n rfl rfl rfl ?_
      refine L_n rfl rfl rfl ?_
      refine L_n rfl rfl rfl ?_
      refine L_q (Q_pickT rfl rfl) rfl rfl rfl ?_
      refine JL_nil ?_
      refine seqQ_normal ?_
      refine J_condT rfl ?_
      refine J_seq ?_
      refine J_region ?_
      refine L_q (Q_ldA 2 rfl rfl rfl) rfl rfl rfl ?_
      refine L_s rfl rfl (O_stW 0 rfl rfl rfl rfl ?_)
      refine JL.norm ?_
      refine L_q (Q_assign rfl) rfl rfl rfl ?_
      refine JL_nil ?_
      refine seqQ_normal ?_
      refine J_ret ?_
      refine seqQ_ret ?_
      exact retQ_ret _ [slc tRq true S L] (.cons (RV_cell 0 rfl rfl rfl rfl) (.cons (RV_tmp rfl) .nil)) ⟨S, rfl, rfl⟩ (Ent.re [3, 4] rfl)
    · refine J_exit ?_
      refine seqQ_exit ?_
      refine loopQ_exit ?_
      refine blockQ_hit ?_
      refine seqQ_normal ?_
      refine J_seq ?_
      refine J_seq ?_
      refine J_region ?_
      refine L_q (Q_move rfl) rfl rfl rfl ?_
      refine L_q ((Q_geq rfl rfl).as (v' := .bool false) (congrArg Value.bool (decide_eq_false (by omega)))) rfl rfl rfl ?_
      refine L_q (Q_move rfl) rfl rfl rfl ?_
      refine L_q (Q_fa0 rfl) rfl rfl rfl ?_
      refine L_q (Q_ld 2 rfl rfl rfl rfl) rfl rfl rfl ?_
      refine L_q (Q_lenAt 3 rfl rfl) rfl rfl rfl ?_
      refine L_q ((Q_geq rfl rfl).as (v' := .bool true) (congrArg Value.bool (decide_eq_true (by omega)))) rfl rfl rfl ?_
      refine L_q (Q_pickF rfl rfl) rfl rfl rfl ?_
      refine JL_nil ?_
      refine seqQ_normal ?_
      refine J_condT rfl ?_
      refine J_seq ?_
      refine J_region ?_
      refine L_q (Q_ldA 2 rfl rfl rfl) rfl rfl rfl ?_
      refine L_s rfl rfl (O_stW 0 rfl rfl rfl rfl ?_)
      refine JL.norm ?_
      refine L_q (Q_assign rfl) rfl rfl rfl ?_
      refine JL_nil ?_
      refine seqQ_normal ?_
      refine J_ret ?_
      refine seqQ_ret ?_
      exact retQ_ret _ [slc tRq true S L] (.cons (RV_cell 0 rfl rfl rfl rfl) (.cons (RV_tmp rfl) .nil)) ⟨S, rfl, rfl⟩ (Ent.re [3, 4] rfl)
  refine J_exit ?_
  refine seqQ_exit ?_
  refine loopQ_exit ?_
  refine blockQ_hit ?_
  refine seqQ_normal ?_
  refine J_seq ?_
  refine J_seq ?_
  refine J_region ?_
  refine L_q (Q_move rfl) rfl rfl rfl ?_
  refine L_q ((Q_geq rfl rfl).as (v' := .bool false) (congrArg Value.bool (decide_eq_false (by omega)))) rfl rfl rfl ?_
  refine L_q (Q_move rfl) rfl rfl rfl ?_
  refine L_q (Q_fa0 rfl) rfl rfl rfl ?_
  refine L_q (Q_ld 2 rfl rfl rfl rfl) rfl rfl rfl ?_
  refine L_q (Q_lenAt 3 rfl rfl) rfl rfl rfl ?_
  refine L_q ((Q_geq rfl rfl).as (v' := .bool false) (congrArg Value.bool (decide_eq_false (by omega)))) rfl rfl rfl ?_
  refine L_q (Q_pickF rfl rfl) rfl rfl rfl ?_
  refine JL_nil ?_
  refine seqQ_normal ?_
  refine J_condF rfl ?_
  refine J_skip ?_
  refine seqQ_normal ?_
  refine J_seq ?_
  refine J_seq ?_
  refine J_region ?_
  refine L_q (Q_assign rfl) rfl rfl rfl ?_
  refine JL_nil ?_
  refine seqQ_normal ?_
  refine J_block ?_
  refine J_loop (fun k : Nat => k ≤ L.length ∧ ∀ x ∈ L.take k, ¬ (x.client = r.client ∧ x.seq = r.seq)) (fun k => [(2, .pointer (some ⟨b2, 0, none⟩)), (3, .pointer (some ⟨b3, 0, none⟩)), (4, .pointer (some ⟨b4, 0, none⟩)), (8, .int .i64 (k : Int))])
    (fun _ => [cel b4 [.slice none 0 0, .int .i64 0, .int .i64 0, .int .i64 0, .int .i64 0, .int .i64 0, .int .i64 0, .int .i64 0, .int .i64 0, .int .i64 0, .int .i64 0, .int .i64 0, .int .i64 0, .int .i64 0, .int .i64 0, .int .i64 0, .int .i64 0] 30, cel b3 (rqV r) 35, cel b2 (refC S X) 30, slc tRq true S L, F]) (fun k => L.length - k) 0 ⟨Nat.zero_le _, by simp⟩ ⟨rfl, rfl, rfl, rfl, trivial⟩ (Ent.refl _) ?_
  rintro k ⟨hk, hno⟩
  refine J_seq ?_
  refine J_seq ?_
  refine J_region ?_
  refine L_q (Q_move rfl) rfl rfl rfl ?_
  refine L_q (Q_fa0 rfl) rfl rfl rfl ?_
  refine L_q (Q_ld 2 rfl rfl rfl rfl) rfl rfl rfl ?_
  refine L_q (Q_lenAt 3 rfl rfl) rfl rfl rfl ?_
  refine L_q (Q_lss rfl rfl) rfl rfl rfl ?_
  refine JL_nil ?_
  refine seqQ_normal ?_
  refine J_condD rfl (fun h => ?_) (fun h => ?_)
  · have hlt : k < L.length := by omega
    have hst : ¬ (L[k].client = r.client ∧ L[k].seq = r.seq) → ∀ x ∈ L.take (k + 1), ¬ (x.client = r.client ∧ x.seq = r.seq) := fun hn x hx => by
      rw [List.take_succ_eq_append_getElem hlt, List.mem_append, List.mem_singleton] at hx
      rcases hx with hx | rfl
      · exact hno x hx
      · exact hn
    by_cases he : L[k].client = r.client
    · by_cases hq : L[k].seq = r.seq
      · have hd : dupB L r = true := List.any_eq_true.2 ⟨L[k], List.getElem_mem hlt, decide_eq_true ⟨he, hq⟩⟩
        have e1 : rputE L X r = 8 := by simp only [rputE, hb, if_true, if_neg h7, hd, true_or]
        have e2 : rputL L X r = L := by unfold rputL; rw [e1]; rfl
        rw [e1, e2]
        refine J_skip ?_
        refine seqQ_normal ?_
        refine J_seq ?_
        refine J_block ?_
        refine J_seq ?_
        refine J_drawH [1,2,3] [0, 1, 2, 3, 4, 5, 6, 7, 8, 9, 10, 11, 12, 13, 14, 15, 16, 17, 18, 19] (.quiet 0 (.quiet 1 (.quiet 2 (.quiet 3 (.quiet 4 (.quiet 5 (.quiet 6 (.quiet 7 (.quiet 8 (.quiet 9 (.quiet 10 (.quiet 11 (.quiet 12 (.quiet 13 (.quiet 14 (.quiet 15 (.quiet 16 (.quiet 17 (.quiet 18 (.quiet 19 .done)))))))))))))))))))) Try.mixed (by kernel_rfl) (by kernel_rfl) (by repeat (first | exact retQ_noP | refine seqQ_noP ?_ | refine blockQ_noP ?_ | refine loopQ_noP ?_ | refine scopeQ_noP ?_)) ?_
        refine S_q (Ent.re [1,2,3] rfl) rfl (Q_fa0 rfl) rfl rfl rfl ?_
        refine S_q (Ent.re [1,2,3] rfl) rfl (Q_ld 1 rfl rfl rfl rfl) rfl rfl rfl ?_
        refine S_q (Ent.re [1,2,3] rfl) rfl (Q_move rfl) rfl rfl rfl ?_
        refine S_q (Ent.re [1,2,3] rfl) rfl (Q_ixAt 2 k rfl rfl rfl rfl hlt rfl) rfl rfl rfl ?_
        refine S_q (Ent.re [1,2,3] rfl) rfl (Q_pfa rfl) rfl rfl rfl ?_
        refine S_q (Ent.re [1,2,3] rfl) rfl (Q_ldEAt 2 k 0 (v := .int .i64 L[k].client) rfl rfl rfl rfl hlt (by decide) rfl) rfl rfl rfl ?_
        refine S_q (Ent.re [1,2,3] rfl) rfl (Q_fa0 rfl) rfl rfl rfl ?_
        refine S_q (Ent.re [1,2,3] rfl) rfl (Q_ld 0 rfl rfl rfl rfl) rfl rfl rfl ?_
        refine S_q (Ent.re [1,2,3] rfl) rfl ((Q_eql rfl rfl).as (v' := .bool true) (congrArg Value.bool (decide_eq_true he))) rfl rfl rfl ?_
        refine S_q (Ent.re [1,2,3] rfl) rfl (Q_move rfl) rfl rfl rfl ?_
        refine S_q (Ent.re [1,2,3] rfl) rfl (Q_fa0 rfl) rfl rfl rfl ?_
        refine S_q (Ent.re [1,2,3] rfl) rfl (Q_ld 1 rfl rfl rfl rfl) rfl rfl rfl ?_
        refine S_q (Ent.re [1,2,3] rfl) rfl (Q_move rfl) rfl rfl rfl ?_
        refine S_q (Ent.re [1,2,3] rfl) rfl (Q_ixAt 2 k rfl rfl rfl rfl hlt rfl) rfl rfl rfl ?_
        refine S_q (Ent.re [1,2,3] rfl) rfl (Q_pfa rfl) rfl rfl rfl ?_
        refine S_q (Ent.re [1,2,3] rfl) rfl (Q_ldEAt 2 k 1 (v := .int .i64 L[k].seq) rfl rfl rfl rfl hlt (by decide) rfl) rfl rfl rfl ?_
        refine S_q (Ent.re [1,2,3] rfl) rfl (Q_fa0 rfl) rfl rfl rfl ?_
        refine S_q (Ent.re [1,2,3] rfl) rfl (Q_ld 0 rfl rfl rfl rfl) rfl rfl rfl ?_
        refine S_q (Ent.re [1,2,3] rfl) rfl ((Q_eql rfl rfl).as (v' := .bool true) (congrArg Value.bool (decide_eq_true hq))) rfl rfl rfl ?_
        refine S_q (Ent.re [1,2,3] rfl) rfl (Q_pickT rfl rfl) rfl rfl rfl ?_
        refine S_nil ?_
        refine seqQ_normal ?_
        refine J_condT rfl ?_
        refine J_seq ?_
        refine J_region ?_
        refine L_q (Q_ldA 2 rfl rfl rfl) rfl rfl rfl ?_
        refine L_s rfl rfl (O_stW 0 rfl rfl rfl rfl ?_)
        refine JL.norm ?_
        refine L_q (Q_assign rfl) rfl rfl rfl ?_
        refine JL_nil ?_
        refine seqQ_normal ?_
        refine J_ret ?_
        refine blockQ_ret ?_
        refine seqQ_ret ?_
        refine loopQ_ret ?_
        refine blockQ_ret ?_
        refine seqQ_ret ?_
        exact retQ_ret _ [slc tRq true S L] (.cons (RV_cell 0 rfl rfl rfl rfl) (.cons (RV_tmp rfl) .nil)) ⟨S, rfl, rfl⟩ (Ent.re [3, 4] rfl)
      · refine J_skip ?_
        refine seqQ_normal ?_
        refine J_seq ?_
        refine J_block ?_
        refine J_seq ?_
        refine J_drawH [1,2,3] [0, 1, 2, 3, 4, 5, 6, 7, 8, 9, 10, 11, 12, 13, 14, 15, 16, 17, 18, 19] (.quiet 0 (.quiet 1 (.quiet 2 (.quiet 3 (.quiet 4 (.quiet 5 (.quiet 6 (.quiet 7 (.quiet 8 (.quiet 9 (.quiet 10 (.quiet 11 (.quiet 12 (.quiet 13 (.quiet 14 (.quiet 15 (.quiet 16 (.quiet 17 (.quiet 18 (.quiet 19 .done)))))))))))))))))))) Try.mixed (by kernel_rfl) (by kernel_rfl) (by repeat (first | exact retQ_noP | refine seqQ_noP ?_ | refine blockQ_noP ?_ | refine loopQ_noP ?_ | refine scopeQ_noP ?_)) ?_
        refine S_q (Ent.re [1,2,3] rfl) rfl (Q_fa0 rfl) rfl rfl rfl ?_
        refine S_q (Ent.re [1,2,3] rfl) rfl (Q_ld 1 rfl rfl rfl rfl) rfl rfl rfl ?_
        refine S_q (Ent.re [1,2,3] rfl) rfl (Q_move rfl) rfl rfl rfl ?_
        refine S_q (Ent.re [1,2,3] rfl) rfl (Q_ixAt 2 k rfl rfl rfl rfl hlt rfl) rfl rfl rfl ?_
        refine S_q (Ent.re [1,2,3] rfl) rfl (Q_pfa rfl) rfl rfl rfl ?_
        refine S_q (Ent.re [1,2,3] rfl) rfl (Q_ldEAt 2 k 0 (v := .int .i64 L[k].client) rfl rfl rfl rfl hlt (by decide) rfl) rfl rfl rfl ?_
        refine S_q (Ent.re [1,2,3] rfl) rfl (Q_fa0 rfl) rfl rfl rfl ?_
        refine S_q (Ent.re [1,2,3] rfl) rfl (Q_ld 0 rfl rfl rfl rfl) rfl rfl rfl ?_
        refine S_q (Ent.re [1,2,3] rfl) rfl ((Q_eql rfl rfl).as (v' := .bool true) (congrArg Value.bool (decide_eq_true he))) rfl rfl rfl ?_
        refine S_q (Ent.re [1,2,3] rfl) rfl (Q_move rfl) rfl rfl rfl ?_
        refine S_q (Ent.re [1,2,3] rfl) rfl (Q_fa0 rfl) rfl rfl rfl ?_
        refine S_q (Ent.re [1,2,3] rfl) rfl (Q_ld 1 rfl rfl rfl rfl) rfl rfl rfl ?_
        refine S_q (Ent.re [1,2,3] rfl) rfl (Q_move rfl) rfl rfl rfl ?_
        refine S_q (Ent.re [1,2,3] rfl) rfl (Q_ixAt 2 k rfl rfl rfl rfl hlt rfl) rfl rfl rfl ?_
        refine S_q (Ent.re [1,2,3] rfl) rfl (Q_pfa rfl) rfl rfl rfl ?_
        refine S_q (Ent.re [1,2,3] rfl) rfl (Q_ldEAt 2 k 1 (v := .int .i64 L[k].seq) rfl rfl rfl rfl hlt (by decide) rfl) rfl rfl rfl ?_
        refine S_q (Ent.re [1,2,3] rfl) rfl (Q_fa0 rfl) rfl rfl rfl ?_
        refine S_q (Ent.re [1,2,3] rfl) rfl (Q_ld 0 rfl rfl rfl rfl) rfl rfl rfl ?_
        refine S_q (Ent.re [1,2,3] rfl) rfl ((Q_eql rfl rfl).as (v' := .bool false) (congrArg Value.bool (decide_eq_false hq))) rfl rfl rfl ?_
        refine S_q (Ent.re [1,2,3] rfl) rfl (Q_pickT rfl rfl) rfl rfl rfl ?_
        refine S_nil ?_
        refine seqQ_normal ?_
        refine J_condF rfl ?_
        refine J_skip ?_
        refine blockQ_normal ?_
        refine seqQ_normal ?_
        refine J_region ?_
        refine L_q (Q_move rfl) rfl rfl rfl ?_
        refine L_q (Q_add rfl rfl (by first | exact IntWalk.i64_in _ (by omega) | exact IntWalk.u8_in _ (by omega) | exact IntWalk.u32_in _ (by omega) | exact IntWalk.u64_in _ (by omega) | rfl)) rfl rfl rfl ?_
        refine L_q (Q_assign rfl) rfl rfl rfl ?_
        refine JL_nil ?_
        exact loopQ_normal (k + 1) ⟨hlt, hst fun h => hq h.2⟩ (by omega) ⟨rfl, rfl, rfl, rfl, trivial⟩ (Ent.refl _)
    · refine J_skip ?_
      refine seqQ_normal ?_
      refine J_seq ?_
      refine J_block ?_
      refine J_seq ?_
      refine J_drawH [1,2,3] [0, 1, 2, 3, 4, 5, 6, 7, 8, 9, 10, 11, 12, 13, 14, 15, 16, 17, 18, 19] (.quiet 0 (.quiet 1 (.quiet 2 (.quiet 3 (.quiet 4 (.quiet 5 (.quiet 6 (.quiet 7 (.quiet 8 (.quiet 9 (.quiet 10 (.quiet 11 (.quiet 12 (.quiet 13 (.quiet 14 (.quiet 15 (.quiet 16 (.quiet 17 (.quiet 18 (.quiet 19 .done)))))))))))))))))))) Try.mixed (by kernel_rfl) (by kernel_rfl) (by repeat (first | exact retQ_noP | refine seqQ_noP ?_ | refine blockQ_noP ?_ | refine loopQ_noP ?_ | refine scopeQ_noP ?_)) ?_
      refine S_q (Ent.re [1,2,3] rfl) rfl (Q_fa0 rfl) rfl rfl rfl ?_
      refine S_q (Ent.re [1,2,3] rfl) rfl (Q_ld 1 rfl rfl rfl rfl) rfl rfl rfl ?_
      refine S_q (Ent.re [1,2,3] rfl) rfl (Q_move rfl) rfl rfl rfl ?_
      refine S_q (Ent.re [1,2,3] rfl) rfl (Q_ixAt 2 k rfl rfl rfl rfl hlt rfl) rfl rfl rfl ?_
      refine S_q (Ent.re [1,2,3] rfl) rfl (Q_pfa rfl) rfl rfl rfl ?_
      refine S_q (Ent.re [1,2,3] rfl) rfl (Q_ldEAt 2 k 0 (v := .int .i64 L[k].client) rfl rfl rfl rfl hlt (by decide) rfl) rfl rfl rfl ?_
      refine S_q (Ent.re [1,2,3] rfl) rfl (Q_fa0 rfl) rfl rfl rfl ?_
      refine S_q (Ent.re [1,2,3] rfl) rfl (Q_ld 0 rfl rfl rfl rfl) rfl rfl rfl ?_
      refine S_q (Ent.re [1,2,3] rfl) rfl ((Q_eql rfl rfl).as (v' := .bool false) (congrArg Value.bool (decide_eq_false he))) rfl rfl rfl ?_
      refine S_q (Ent.re [1,2,3] rfl) rfl (Q_move rfl) rfl rfl rfl ?_
      refine S_n (Ent.re [1,2,3] rfl) rfl rfl rfl rfl ?_
      refine S_n (Ent.re [1,2,3] rfl) rfl rfl rfl rfl ?_
      refine S_n (Ent.re [1,2,3] rfl) rfl rfl rfl rfl ?_
      refine S_n (Ent.re [1,2,3] rfl) rfl rfl rfl rfl ?_
      refine S_n (Ent.re [1,2,3] rfl) rfl rfl rfl rfl ?_
      refine S_n (Ent.re [1,2,3] rfl) rfl rfl rfl rfl ?_
      refine S_n (Ent.re [1,2,3] rfl) rfl rfl rfl rfl ?_
      refine S_n (Ent.re [1,2,3] rfl) rfl rfl rfl rfl ?_
      refine S_n (Ent.re [1,2,3] rfl) rfl rfl rfl rfl ?_
      refine S_q (Ent.re [1,2,3] rfl) rfl (Q_pickF rfl rfl) rfl rfl rfl ?_
      refine S_nil ?_
      refine seqQ_normal ?_
      refine J_condF rfl ?_
      refine J_skip ?_
      refine blockQ_normal ?_
      refine seqQ_normal ?_
      refine J_region ?_
      refine L_q (Q_move rfl) rfl rfl rfl ?_
      refine L_q (Q_add rfl rfl (by first | exact IntWalk.i64_in _ (by omega) | exact IntWalk.u8_in _ (by omega) | exact IntWalk.u32_in _ (by omega) | exact IntWalk.u64_in _ (by omega) | rfl)) rfl rfl rfl ?_
      refine L_q (Q_assign rfl) rfl rfl rfl ?_
      refine JL_nil ?_
      exact loopQ_normal (k + 1) ⟨hlt, hst fun h => he h.1⟩ (by omega) ⟨rfl, rfl, rfl, rfl, trivial⟩ (Ent.refl _)
  obtain rfl : k = L.length := by omega
  rw [List.take_length] at hno
  have hd : dupB L r = false := List.any_eq_false.2 fun x hx h => hno x hx (of_decide_eq_true h)
  have hg := lastV_get S X c hc16
  rw [← hcc] at hg
  by_cases hx : r.seq < X r.client
  · have e1 : rputE L X r = 8 := by simp only [rputE, hb, if_true, if_neg h7, hx, or_true]
    have e2 : rputL L X r = L := by unfold rputL; rw [e1]; rfl
    rw [e1, e2]
    refine J_exit ?_
    refine seqQ_exit ?_
    refine loopQ_exit ?_
    refine blockQ_hit ?_
    refine seqQ_normal ?_
    refine J_seq ?_
    refine J_seq ?_
    refine J_drawH [1,2] [0, 1, 2, 3, 4, 5, 6, 7] (.quiet 0 (.quiet 1 (.quiet 2 (.quiet 3 (.quiet 4 (.quiet 5 (.quiet 6 (.quiet 7 .done)))))))) Try.mixed (by kernel_rfl) (by kernel_rfl) (by repeat (first | exact retQ_noP | refine seqQ_noP ?_ | refine blockQ_noP ?_ | refine loopQ_noP ?_ | refine scopeQ_noP ?_)) ?_
    refine S_q (Ent.re [1,2] rfl) rfl (Q_fa0 rfl) rfl rfl rfl ?_
    refine S_q (Ent.re [1,2] rfl) rfl (Q_ld 0 rfl rfl rfl rfl) rfl rfl rfl ?_
    refine S_q (Ent.re [1,2] rfl) rfl (Q_fa0 rfl) rfl rfl rfl ?_
    refine S_q (Ent.re [1,2] rfl) rfl (Q_ld 0 rfl rfl rfl rfl) rfl rfl rfl ?_
    refine S_q (Ent.re [1,2] rfl) rfl (Q_fa0 rfl) rfl rfl rfl ?_
    refine S_q (Ent.re [1,2] rfl) rfl (Q_ia (sz := 1) c rfl rfl hcc hc16 (show 1 + c * 1 = 1 + c by omega)) rfl rfl rfl ?_
    refine S_q (Ent.re [1,2] rfl) rfl (Q_ld 1 rfl rfl rfl hg) rfl rfl rfl ?_
    refine S_q (Ent.re [1,2] rfl) rfl ((Q_leq rfl rfl).as (v' := .bool true) (congrArg Value.bool (decide_eq_true (by omega)))) rfl rfl rfl ?_
    refine S_nil ?_
    refine seqQ_normal ?_
    refine J_condT rfl ?_
    refine J_seq ?_
    refine J_region ?_
    refine L_q (Q_ldA 2 rfl rfl rfl) rfl rfl rfl ?_
    refine L_s rfl rfl (O_stW 0 rfl rfl rfl rfl ?_)
    refine JL.norm ?_
    refine L_q (Q_assign rfl) rfl rfl rfl ?_
    refine JL_nil ?_
    refine seqQ_normal ?_
    refine J_ret ?_
    refine seqQ_ret ?_
    exact retQ_ret _ [slc tRq true S L] (.cons (RV_cell 0 rfl rfl rfl rfl) (.cons (RV_tmp rfl) .nil)) ⟨S, rfl, rfl⟩ (Ent.re [3, 4] rfl)
  · have e1 : rputE L X r = 0 := by simp only [rputE, hb, if_true, if_neg h7, hd, hx, or_self, Bool.false_eq_true, if_false]
    have e2 : rputL L X r = L ++ [r] := by unfold rputL; rw [e1]; rfl
    rw [e1, e2]
    refine J_exit ?_
    refine seqQ_exit ?_
    refine loopQ_exit ?_
    refine blockQ_hit ?_
    refine seqQ_normal ?_
    refine J_seq ?_
    refine J_seq ?_
    refine J_drawH [1,2] [0, 1, 2, 3, 4, 5, 6, 7] (.quiet 0 (.quiet 1 (.quiet 2 (.quiet 3 (.quiet 4 (.quiet 5 (.quiet 6 (.quiet 7 .done)))))))) Try.mixed (by kernel_rfl) (by kernel_rfl) (by repeat (first | exact retQ_noP | refine seqQ_noP ?_ | refine blockQ_noP ?_ | refine loopQ_noP ?_ | refine scopeQ_noP ?_)) ?_
    refine S_q (Ent.re [1,2] rfl) rfl (Q_fa0 rfl) rfl rfl rfl ?_
    refine S_q (Ent.re [1,2] rfl) rfl (Q_ld 0 rfl rfl rfl rfl) rfl rfl rfl ?_
    refine S_q (Ent.re [1,2] rfl) rfl (Q_fa0 rfl) rfl rfl rfl ?_
    refine S_q (Ent.re [1,2] rfl) rfl (Q_ld 0 rfl rfl rfl rfl) rfl rfl rfl ?_
    refine S_q (Ent.re [1,2] rfl) rfl (Q_fa0 rfl) rfl rfl rfl ?_
    refine S_q (Ent.re [1,2] rfl) rfl (Q_ia (sz := 1) c rfl rfl hcc hc16 (show 1 + c * 1 = 1 + c by omega)) rfl rfl rfl ?_
    refine S_q (Ent.re [1,2] rfl) rfl (Q_ld 1 rfl rfl rfl hg) rfl rfl rfl ?_
    refine S_q (Ent.re [1,2] rfl) rfl ((Q_leq rfl rfl).as (v' := .bool false) (congrArg Value.bool (decide_eq_false (by omega)))) rfl rfl rfl ?_
    refine S_nil ?_
    refine seqQ_normal ?_
    refine J_condF rfl ?_
    refine J_skip ?_
    refine seqQ_normal ?_
    refine J_seq ?_
    refine J.ent (Ent.mk fun _ _ h => (h.lay_nil tRq true : Sat _ _ (slc tRq true SV.nil [] :: _))) ?_
    refine J_drawH [2,3] [0, 1, 3, 6] (.quiet 0 (.quiet 1 (.quiet 3 (.both 2 (.loud 4 (.loud 5 (.quiet 6 (.loud 7 .done)))) 4 (.loud 2 (.loud 5 (.quiet 6 (.loud 7 .done)))))))) Try.mixed (by kernel_rfl) (by kernel_rfl) (by repeat (first | exact retQ_noP | refine seqQ_noP ?_ | refine blockQ_noP ?_ | refine loopQ_noP ?_ | refine scopeQ_noP ?_)) ?_
    refine S_q (Ent.re [2,3] rfl) rfl (Q_fa0 rfl) rfl rfl rfl ?_
    refine S_q (Ent.re [2,3] rfl) rfl (Q_ld 1 rfl rfl rfl rfl) rfl rfl rfl ?_
    refine S_q (Ent.re [2,3] rfl) rfl (Q_ldA 0 rfl rfl rfl) rfl rfl rfl ?_
    refine S_both ?_ ?_
    · refine S_o rfl rfl rfl rfl (O_app (τ := tRq) 0 rfl (fun w h => h.rd 4 rfl) rfl rfl rfl rfl (by simp only [List.length_nil]; omega) (by decide) (fun X1 => ⟨_, fun _ => ⟨Ent.reN [2,3] rfl, Ent.refl _⟩, ?_⟩))
      refine JS.norm ?_
      refine S_o rfl rfl rfl rfl (O_litP (τ := tRq) (m := 1) (sz := 6) [r] rfl rfl rfl rfl rfl rfl (by decide) (fun X2 => ⟨_, fun _ => ⟨Ent.reN [3,4] rfl, Ent.refl _⟩, ?_⟩))
      refine JS.norm ?_
      refine S_o rfl rfl rfl rfl (O_app (τ := tRq) 1 rfl (fun w h => h.rd 0 rfl) rfl rfl rfl rfl (by simp only [List.nil_append, List.length_singleton]; omega) (by decide) (fun X3 => ⟨_, fun _ => ⟨Ent.reN [3,4] rfl, Ent.refl _⟩, ?_⟩))
      refine JS.norm ?_
      refine S_q (Ent.re [3,4] rfl) rfl (Q_fa0 rfl) rfl rfl rfl ?_
      refine S_s rfl rfl rfl (O_st1 4 rfl rfl rfl rfl rfl ⟨[], free_no (by kernel_rfl), ?_⟩)
      refine JS.norm ?_
      refine S_nil ?_
      refine seqQ_normal ?_
      refine J_seq ?_
      rw [List.nil_append]
      refine J_region ?_
      refine L_q (Q_ldA 4 rfl rfl rfl) rfl rfl rfl ?_
      refine L_s rfl rfl (O_stW 2 rfl rfl rfl rfl ?_)
      refine JL.norm ?_
      refine L_q (Q_assign rfl) rfl rfl rfl ?_
      refine JL_nil ?_
      refine seqQ_normal ?_
      refine J_ret ?_
      exact retQ_ret _ [slc tRq true X3 (L ++ [r])] (.cons (RV_cell 2 rfl rfl rfl rfl) (.cons (RV_tmp rfl) .nil)) ⟨X3, rfl, rfl⟩ (Ent.re [1, 6] rfl)
    · refine S_o rfl rfl rfl rfl (O_litP (τ := tRq) (m := 1) (sz := 6) [r] rfl rfl rfl rfl rfl rfl (by decide) (fun X2 => ⟨_, fun _ => ⟨Ent.reN [3,4] rfl, Ent.refl _⟩, ?_⟩))
      refine JS.norm ?_
      refine S_o rfl rfl rfl rfl (O_app (τ := tRq) 1 rfl (fun w h => h.rd 5 rfl) rfl rfl rfl rfl (by simp only [List.length_nil]; omega) (by decide) (fun X1 => ⟨_, fun _ => ⟨Ent.reN [3,4] rfl, Ent.refl _⟩, ?_⟩))
      refine JS.norm ?_
      refine S_o rfl rfl rfl rfl (O_app (τ := tRq) 1 rfl (fun w h => h.rd 0 rfl) rfl rfl rfl rfl (by simp only [List.nil_append, List.length_singleton]; omega) (by decide) (fun X3 => ⟨_, fun _ => ⟨Ent.reN [3,4] rfl, Ent.refl _⟩, ?_⟩))
      refine JS.norm ?_
      refine S_q (Ent.re [3,4] rfl) rfl (Q_fa0 rfl) rfl rfl rfl ?_
      refine S_s rfl rfl rfl (O_st1 4 rfl rfl rfl rfl rfl ⟨[], free_no (by kernel_rfl), ?_⟩)
      refine JS.norm ?_
      refine S_nil ?_
      refine seqQ_normal ?_
      refine J_seq ?_
      rw [List.nil_append]
      refine J_region ?_
      refine L_q (Q_ldA 4 rfl rfl rfl) rfl rfl rfl ?_
      refine L_s rfl rfl (O_stW 2 rfl rfl rfl rfl ?_)
      refine JL.norm ?_
      refine L_q (Q_assign rfl) rfl rfl rfl ?_
      refine JL_nil ?_
      refine seqQ_normal ?_
      refine J_ret ?_
      exact retQ_ret _ [slc tRq true X3 (L ++ [r])] (.cons (RV_cell 2 rfl rfl rfl rfl) (.cons (RV_tmp rfl) .nil)) ⟨X3, rfl, rfl⟩ (Ent.re [1, 6] rfl)
theorem rdone_ok (E : World) (S T : SV) (X : Int → Int) (L l : List Rq) (f : Bool) (hr : ∀ r ∈ l, Sh r) (hl : l.length ≤ 1000) (hL : L.length ≤ 1000) (hX : ∀ k, 0 ≤ X k ∧ X k ≤ 2147483648) (hc : ∀ r ∈ L, 0 ≤ r.client ∧ r.client ≤ 15 ∧ 0 ≤ r.seq ∧ r.seq < 2147483648) : Does Try.prog E 11 [refP S X, T.v] [slc tRq true S L, slc tRq f T l] fun v Lc => ∃ S' : SV, v = .tuple #[refP S' (rdoneX X l), .int .i64 ((L.length : Int) - ((rdoneL L (rdoneX X l)).length : Int))] ∧ Lc = [slc tRq true S' (rdoneL L (rdoneX X l)), slc tRq f T l] := by
  refine Does.of Try.func11 rfl Try.ntmps11 rfl rfl fun F => ?_
  refine J.norm ?_
  refine J_seq ?_
  refine J_region ?_
  refine L_o rfl rfl rfl (O_box rfl fun b2 => ?_)
  refine L_o rfl rfl rfl (O_alloc fun b4 => ?_)
  refine L_q (Q_assign rfl) rfl rfl rfl ?_
  refine JL_nil ?_
  refine seqQ_normal ?_
  refine J_seq ?_
  refine J_seq ?_
  refine J_region ?_
  refine L_q (Q_assign rfl) rfl rfl rfl ?_
  refine JL_nil ?_
  refine seqQ_normal ?_
  refine J_block ?_
  refine J_loop (fun k : Nat => k ≤ l.length) (fun k => [(1, T.v), (2, .pointer (some ⟨b2, 0, none⟩)), (4, .pointer (some ⟨b4, 0, none⟩)), (6, .int .i64 (k : Int))])
    (fun k => [cel b4 [.slice none 0 0, .int .i64 0, .int .i64 0, .int .i64 0, .int .i64 0, .int .i64 0, .int .i64 0, .int .i64 0, .int .i64 0, .int .i64 0, .int .i64 0, .int .i64 0, .int .i64 0, .int .i64 0, .int .i64 0, .int .i64 0, .int .i64 0] 30, cel b2 (refC S (rdoneX X (l.take k))) 30, slc tRq true S L, slc tRq f T l, F]) (fun k => l.length - k) 0 (Nat.zero_le _) ⟨rfl, rfl, rfl, rfl, trivial⟩ (Ent.refl _) ?_
  intro k hk
  have hXk := rdoneX_rng X hX (l.take k)
  refine J_seq ?_
  refine J_seq ?_
  refine J_region ?_
  refine L_q (Q_move rfl) rfl rfl rfl ?_
  refine L_q (Q_move rfl) rfl rfl rfl ?_
  refine L_q (Q_lenAt 3 rfl rfl) rfl rfl rfl ?_
  refine L_q (Q_lss rfl rfl) rfl rfl rfl ?_
  refine JL_nil ?_
  refine seqQ_normal ?_
  refine J_condD rfl (fun h => ?_) (fun h => ?_)
  · have hlt : k < l.length := by omega
    have hs := rdoneX_succ X l k hlt
    have hmy := rmay_ok E l[k] (hr _ (List.getElem_mem hlt))
    generalize rdoneX X (l.take k) = X1 at *
    cases hb : mayB l[k] with
    | false =>
      rw [hb] at hs hmy
      refine J_skip ?_
      refine seqQ_normal ?_
      refine J_seq ?_
      refine J_block ?_
      refine J_seq ?_
      refine J_region ?_
      refine L_q (Q_move rfl) rfl rfl rfl ?_
      refine L_q (Q_move rfl) rfl rfl rfl ?_
      refine L_q (Q_ixAt 3 k rfl rfl rfl rfl hlt rfl) rfl rfl rfl ?_
      refine L_q (Q_ldEAAt 3 k 0 (vs := rqV l[k]) rfl rfl rfl rfl hlt (by decide) rfl) rfl rfl rfl ?_
      refine L_o rfl rfl rfl (O_call [] [0,1,2,3,4] hmy rfl rfl ?_)
      rintro _ _ ⟨rfl, rfl⟩
      refine JL.norm ?_
      refine JL_nil ?_
      refine seqQ_normal ?_
      refine J_condF rfl ?_
      refine J_skip ?_
      refine blockQ_normal ?_
      refine seqQ_normal ?_
      refine J_region ?_
      refine L_q (Q_move rfl) rfl rfl rfl ?_
      refine L_q (Q_add rfl rfl (by first | exact IntWalk.i64_in _ (by omega) | exact IntWalk.u8_in _ (by omega) | exact IntWalk.u32_in _ (by omega) | exact IntWalk.u64_in _ (by omega) | rfl)) rfl rfl rfl ?_
      refine L_q (Q_assign rfl) rfl rfl rfl ?_
      refine JL_nil ?_
      exact loopQ_normal (k + 1) hlt (by omega) ⟨rfl, rfl, rfl, rfl, trivial⟩ (by rw [hs]; exact Ent.refl _)
    | true =>
      rw [hb] at hs hmy
      have hpt := may_parts hb
      obtain ⟨c, hc16, hcc⟩ : ∃ c : Nat, c < 16 ∧ l[k].client = (c : Int) := ⟨l[k].client.toNat, by omega, by omega⟩
      have hg := lastV_get S X1 c hc16
      rw [← hcc] at hg
      have hsv := lastV_SetV S X1 c (nxt X1 l[k]) (nxt X1 l[k] - 1) hc16 rfl
      refine J_skip ?_
      refine seqQ_normal ?_
      refine J_seq ?_
      refine J_block ?_
      refine J_seq ?_
      refine J_region ?_
      refine L_q (Q_move rfl) rfl rfl rfl ?_
      refine L_q (Q_move rfl) rfl rfl rfl ?_
      refine L_q (Q_ixAt 3 k rfl rfl rfl rfl hlt rfl) rfl rfl rfl ?_
      refine L_q (Q_ldEAAt 3 k 0 (vs := rqV l[k]) rfl rfl rfl rfl hlt (by decide) rfl) rfl rfl rfl ?_
      refine L_o rfl rfl rfl (O_call [] [0,1,2,3,4] hmy rfl rfl ?_)
      rintro _ _ ⟨rfl, rfl⟩
      refine JL.norm ?_
      refine JL_nil ?_
      refine seqQ_normal ?_
      refine J_condT rfl ?_
      refine J_drawH [1,3] [0, 1, 2, 3, 4, 5, 6, 7, 8, 9, 10, 11, 12, 13, 14, 15, 16, 17, 18, 19, 20] (.quiet 0 (.quiet 1 (.quiet 2 (.quiet 3 (.quiet 4 (.quiet 5 (.quiet 6 (.quiet 7 (.quiet 8 (.quiet 9 (.quiet 10 (.quiet 11 (.quiet 12 (.quiet 13 (.quiet 14 (.quiet 15 (.quiet 16 (.quiet 17 (.quiet 18 (.quiet 19 (.quiet 20 (.loud 21 .done)))))))))))))))))))))) Try.mixed (by kernel_rfl) (by kernel_rfl) (by repeat (first | exact retQ_noP | refine seqQ_noP ?_ | refine blockQ_noP ?_ | refine loopQ_noP ?_ | refine scopeQ_noP ?_)) ?_
      refine S_q (Ent.re [1,3] rfl) rfl (Q_move rfl) rfl rfl rfl ?_
      refine S_q (Ent.re [1,3] rfl) rfl (Q_move rfl) rfl rfl rfl ?_
      refine S_q (Ent.re [1,3] rfl) rfl (Q_ixAt 1 k rfl rfl rfl rfl hlt rfl) rfl rfl rfl ?_
      refine S_q (Ent.re [1,3] rfl) rfl (Q_pfa rfl) rfl rfl rfl ?_
      refine S_q (Ent.re [1,3] rfl) rfl (Q_ldEAt 1 k 0 (v := .int .i64 l[k].client) rfl rfl rfl rfl hlt (by decide) rfl) rfl rfl rfl ?_
      refine S_q (Ent.re [1,3] rfl) rfl (Q_move rfl) rfl rfl rfl ?_
      refine S_q (Ent.re [1,3] rfl) rfl (Q_move rfl) rfl rfl rfl ?_
      refine S_q (Ent.re [1,3] rfl) rfl (Q_ixAt 1 k rfl rfl rfl rfl hlt rfl) rfl rfl rfl ?_
      refine S_q (Ent.re [1,3] rfl) rfl (Q_pfa rfl) rfl rfl rfl ?_
      refine S_q (Ent.re [1,3] rfl) rfl (Q_ldEAt 1 k 0 (v := .int .i64 l[k].client) rfl rfl rfl rfl hlt (by decide) rfl) rfl rfl rfl ?_
      refine S_q (Ent.re [1,3] rfl) rfl (Q_fa0 rfl) rfl rfl rfl ?_
      refine S_q (Ent.re [1,3] rfl) rfl (Q_ia (sz := 1) c rfl rfl hcc hc16 (show 1 + c * 1 = 1 + c by omega)) rfl rfl rfl ?_
      refine S_q (Ent.re [1,3] rfl) rfl (Q_ld 0 rfl rfl rfl hg) rfl rfl rfl ?_
      refine S_q (Ent.re [1,3] rfl) rfl (Q_move rfl) rfl rfl rfl ?_
      refine S_q (Ent.re [1,3] rfl) rfl (Q_move rfl) rfl rfl rfl ?_
      refine S_q (Ent.re [1,3] rfl) rfl (Q_ixAt 1 k rfl rfl rfl rfl hlt rfl) rfl rfl rfl ?_
      refine S_q (Ent.re [1,3] rfl) rfl (Q_pfa rfl) rfl rfl rfl ?_
      refine S_q (Ent.re [1,3] rfl) rfl (Q_ldEAt 1 k 1 (v := .int .i64 l[k].seq) rfl rfl rfl rfl hlt (by decide) rfl) rfl rfl rfl ?_
      refine S_q (Ent.re [1,3] rfl) rfl ((Q_max2 rfl rfl).as (v' := .int .i64 (nxt X1 l[k] - 1)) (congrArg (Value.int .i64) (by unfold nxt; omega))) rfl rfl rfl ?_
      refine S_q (Ent.re [1,3] rfl) rfl (Q_fa0 rfl) rfl rfl rfl ?_
      refine S_q (Ent.re [1,3] rfl) rfl (Q_ia (sz := 1) c rfl rfl hcc hc16 (show 1 + c * 1 = 1 + c by omega)) rfl rfl rfl ?_
      refine S_s rfl rfl rfl (O_st1 1 rfl rfl rfl rfl rfl ⟨[], free_no (by kernel_rfl), ?_⟩)
      refine JS.norm ?_
      refine S_nil ?_
      refine blockQ_normal ?_
      refine seqQ_normal ?_
      refine J_region ?_
      refine L_q (Q_move rfl) rfl rfl rfl ?_
      refine L_q (Q_add rfl rfl (by first | exact IntWalk.i64_in _ (by omega) | exact IntWalk.u8_in _ (by omega) | exact IntWalk.u32_in _ (by omega) | exact IntWalk.u64_in _ (by omega) | rfl)) rfl rfl rfl ?_
      refine L_q (Q_assign rfl) rfl rfl rfl ?_
      refine JL_nil ?_
      exact loopQ_normal (k + 1) hlt (by omega) ⟨rfl, rfl, rfl, rfl, trivial⟩ (by rw [hs, if_pos rfl, hcc]; exact Ent.refl _)
  obtain rfl : k = l.length := by omega
  rw [List.take_length] at hXk ⊢
  generalize rdoneX X l = X1 at *
  refine J_exit ?_
  refine seqQ_exit ?_
  refine loopQ_exit ?_
  refine blockQ_hit ?_
  refine seqQ_normal ?_
  refine J_seq ?_
  refine J_region ?_
  refine L_q (Q_assign rfl) rfl rfl rfl ?_
  refine JL_nil ?_
  refine seqQ_normal ?_
  refine J_seq ?_
  refine J_seq ?_
  refine J_region ?_
  refine L_q (Q_assign rfl) rfl rfl rfl ?_
  refine JL_nil ?_
  refine seqQ_normal ?_
  refine J_block ?_
  refine J.ent (Ent.mk fun _ _ h => (h.lay_nil tRq true : Sat _ _ (slc tRq true SV.nil [] :: _))) ?_
  refine J_loop (fun i : Nat × SV => i.1 ≤ L.length) (fun i => [(2, .pointer (some ⟨b2, 0, none⟩)), (4, .pointer (some ⟨b4, 0, none⟩)), (7, i.2.v), (8, .int .i64 (i.1 : Int))])
    (fun i => [slc tRq true i.2 (rdoneL (L.take i.1) X1), cel b4 [.slice none 0 0, .int .i64 0, .int .i64 0, .int .i64 0, .int .i64 0, .int .i64 0, .int .i64 0, .int .i64 0, .int .i64 0, .int .i64 0, .int .i64 0, .int .i64 0, .int .i64 0, .int .i64 0, .int .i64 0, .int .i64 0, .int .i64 0] 30, cel b2 (refC S X1) 30, slc tRq true S L, slc tRq f T l, F]) (fun i => L.length - i.1) (0, SV.nil) (Nat.zero_le _) ⟨rfl, rfl, rfl, rfl, trivial⟩ (Ent.refl _) ?_
  rintro ⟨k, O⟩ hk
  dsimp only at hk ⊢
  have hol : (rdoneL (L.take k) X1).length ≤ k := by
    have := List.length_filter_le (fun r : Rq => decide (X1 r.client ≤ r.seq)) (L.take k)
    rw [List.length_take] at this
    unfold rdoneL; omega
  refine J_seq ?_
  refine J_seq ?_
  refine J_region ?_
  refine L_q (Q_move rfl) rfl rfl rfl ?_
  refine L_q (Q_fa0 rfl) rfl rfl rfl ?_
  refine L_q (Q_ld 2 rfl rfl rfl rfl) rfl rfl rfl ?_
  refine L_q (Q_lenAt 3 rfl rfl) rfl rfl rfl ?_
  refine L_q (Q_lss rfl rfl) rfl rfl rfl ?_
  refine JL_nil ?_
  refine seqQ_normal ?_
  refine J_condD rfl (fun h => ?_) (fun h => ?_)
  · have hlt : k < L.length := by omega
    have hcl := hc L[k] (List.getElem_mem hlt)
    have hXc := hXk L[k].client
    obtain ⟨c, hc16, hcc⟩ : ∃ c : Nat, c < 16 ∧ L[k].client = (c : Int) := ⟨L[k].client.toNat, by omega, by omega⟩
    have hg := lastV_get S X1 c hc16
    rw [← hcc] at hg
    have hs : rdoneL (L.take (k + 1)) X1 = rdoneL (L.take k) X1 ++ rdoneL [L[k]] X1 := by
      unfold rdoneL; rw [List.take_succ_eq_append_getElem hlt, List.filter_append]
    by_cases hd : X1 L[k].client ≤ L[k].seq
    · have h1 : rdoneL [L[k]] X1 = [L[k]] := by simp [rdoneL, hd]
      refine J_skip ?_
      refine seqQ_normal ?_
      refine J_seq ?_
      refine J_block ?_
      refine J_seq ?_
      refine J_drawH [2,3] [0, 1, 2, 3, 4, 5, 6, 7, 8, 9, 10, 11, 12, 13, 14, 15] (.quiet 0 (.quiet 1 (.quiet 2 (.quiet 3 (.quiet 4 (.quiet 5 (.quiet 6 (.quiet 7 (.quiet 8 (.quiet 9 (.quiet 10 (.quiet 11 (.quiet 12 (.quiet 13 (.quiet 14 (.quiet 15 .done)))))))))))))))) Try.mixed (by kernel_rfl) (by kernel_rfl) (by repeat (first | exact retQ_noP | refine seqQ_noP ?_ | refine blockQ_noP ?_ | refine loopQ_noP ?_ | refine scopeQ_noP ?_)) ?_
      refine S_q (Ent.re [2,3] rfl) rfl (Q_fa0 rfl) rfl rfl rfl ?_
      refine S_q (Ent.re [2,3] rfl) rfl (Q_ld 0 rfl rfl rfl rfl) rfl rfl rfl ?_
      refine S_q (Ent.re [2,3] rfl) rfl (Q_move rfl) rfl rfl rfl ?_
      refine S_q (Ent.re [2,3] rfl) rfl (Q_ixAt 1 k rfl rfl rfl rfl hlt rfl) rfl rfl rfl ?_
      refine S_q (Ent.re [2,3] rfl) rfl (Q_pfa rfl) rfl rfl rfl ?_
      refine S_q (Ent.re [2,3] rfl) rfl (Q_ldEAt 1 k 1 (v := .int .i64 L[k].seq) rfl rfl rfl rfl hlt (by decide) rfl) rfl rfl rfl ?_
      refine S_q (Ent.re [2,3] rfl) rfl (Q_fa0 rfl) rfl rfl rfl ?_
      refine S_q (Ent.re [2,3] rfl) rfl (Q_ld 0 rfl rfl rfl rfl) rfl rfl rfl ?_
      refine S_q (Ent.re [2,3] rfl) rfl (Q_move rfl) rfl rfl rfl ?_
      refine S_q (Ent.re [2,3] rfl) rfl (Q_ixAt 1 k rfl rfl rfl rfl hlt rfl) rfl rfl rfl ?_
      refine S_q (Ent.re [2,3] rfl) rfl (Q_pfa rfl) rfl rfl rfl ?_
      refine S_q (Ent.re [2,3] rfl) rfl (Q_ldEAt 1 k 0 (v := .int .i64 L[k].client) rfl rfl rfl rfl hlt (by decide) rfl) rfl rfl rfl ?_
      refine S_q (Ent.re [2,3] rfl) rfl (Q_fa0 rfl) rfl rfl rfl ?_
      refine S_q (Ent.re [2,3] rfl) rfl (Q_ia (sz := 1) c rfl rfl hcc hc16 (show 1 + c * 1 = 1 + c by omega)) rfl rfl rfl ?_
      refine S_q (Ent.re [2,3] rfl) rfl (Q_ld 0 rfl rfl rfl hg) rfl rfl rfl ?_
      refine S_q (Ent.re [2,3] rfl) rfl ((Q_gtr rfl rfl).as (v' := .bool true) (congrArg Value.bool (decide_eq_true (by omega)))) rfl rfl rfl ?_
      refine S_nil ?_
      refine seqQ_normal ?_
      refine J_condT rfl ?_
      refine J_region ?_
      refine L_q (Q_move rfl) rfl rfl rfl ?_
      refine L_q (Q_fa0 rfl) rfl rfl rfl ?_
      refine L_q (Q_ld 2 rfl rfl rfl rfl) rfl rfl rfl ?_
      refine L_q (Q_move rfl) rfl rfl rfl ?_
      refine L_q (Q_ixAt 3 k rfl rfl rfl rfl hlt rfl) rfl rfl rfl ?_
      refine L_q (Q_ldEAAt 3 k 0 (vs := rqV L[k]) rfl rfl rfl rfl hlt (by decide) rfl) rfl rfl rfl ?_
      refine L_o rfl rfl rfl (O_litP (τ := tRq) (m := 1) (sz := 6) [L[k]] rfl rfl rfl rfl rfl rfl (by decide) (fun X2 => ?_))
      refine JL.norm ?_
      refine L_o rfl rfl rfl (O_app (τ := tRq) 1 rfl (fun w h => h.rd 0 rfl) rfl rfl rfl rfl (by simp only [List.length_singleton]; omega) (by decide) (fun O2 => ?_))
      refine JL.norm ?_
      refine L_q (Q_assign rfl) rfl rfl rfl ?_
      refine JL_nil ?_
      refine blockQ_normal ?_
      refine seqQ_normal ?_
      refine J_region ?_
      refine L_q (Q_move rfl) rfl rfl rfl ?_
      refine L_q (Q_add rfl rfl (by first | exact IntWalk.i64_in _ (by omega) | exact IntWalk.u8_in _ (by omega) | exact IntWalk.u32_in _ (by omega) | exact IntWalk.u64_in _ (by omega) | rfl)) rfl rfl rfl ?_
      refine L_q (Q_assign rfl) rfl rfl rfl ?_
      refine JL_nil ?_
      exact loopQ_normal (k + 1, O2) hlt (by simp only; omega) ⟨rfl, rfl, rfl, rfl, trivial⟩ (by simp only; rw [hs, h1]; exact Ent.re [1, 2, 3, 4, 5, 6] rfl)
    · have h1 : rdoneL [L[k]] X1 = [] := by simp [rdoneL]; omega
      refine J_skip ?_
      refine seqQ_normal ?_
      refine J_seq ?_
      refine J_block ?_
      refine J_seq ?_
      refine J_drawH [2,3] [0, 1, 2, 3, 4, 5, 6, 7, 8, 9, 10, 11, 12, 13, 14, 15] (.quiet 0 (.quiet 1 (.quiet 2 (.quiet 3 (.quiet 4 (.quiet 5 (.quiet 6 (.quiet 7 (.quiet 8 (.quiet 9 (.quiet 10 (.quiet 11 (.quiet 12 (.quiet 13 (.quiet 14 (.quiet 15 .done)))))))))))))))) Try.mixed (by kernel_rfl) (by kernel_rfl) (by repeat (first | exact retQ_noP | refine seqQ_noP ?_ | refine blockQ_noP ?_ | refine loopQ_noP ?_ | refine scopeQ_noP ?_)) ?_
      refine S_q (Ent.re [2,3] rfl) rfl (Q_fa0 rfl) rfl rfl rfl ?_
      refine S_q (Ent.re [2,3] rfl) rfl (Q_ld 0 rfl rfl rfl rfl) rfl rfl rfl ?_
      refine S_q (Ent.re [2,3] rfl) rfl (Q_move rfl) rfl rfl rfl ?_
      refine S_q (Ent.re [2,3] rfl) rfl (Q_ixAt 1 k rfl rfl rfl rfl hlt rfl) rfl rfl rfl ?_
      refine S_q (Ent.re [2,3] rfl) rfl (Q_pfa rfl) rfl rfl rfl ?_
      refine S_q (Ent.re [2,3] rfl) rfl (Q_ldEAt 1 k 1 (v := .int .i64 L[k].seq) rfl rfl rfl rfl hlt (by decide) rfl) rfl rfl rfl ?_
      refine S_q (Ent.re [2,3] rfl) rfl (Q_fa0 rfl) rfl rfl rfl ?_
      refine S_q (Ent.re [2,3] rfl) rfl (Q_ld 0 rfl rfl rfl rfl) rfl rfl rfl ?_
      refine S_q (Ent.re [2,3] rfl) rfl (Q_move rfl) rfl rfl rfl ?_
      refine S_q (Ent.re [2,3] rfl) rfl (Q_ixAt 1 k rfl rfl rfl rfl hlt rfl) rfl rfl rfl ?_
      refine S_q (Ent.re [2,3] rfl) rfl (Q_pfa rfl) rfl rfl rfl ?_
      refine S_q (Ent.re [2,3] rfl) rfl (Q_ldEAt 1 k 0 (v := .int .i64 L[k].client) rfl rfl rfl rfl hlt (by decide) rfl) rfl rfl rfl ?_
      refine S_q (Ent.re [2,3] rfl) rfl (Q_fa0 rfl) rfl rfl rfl ?_
      refine S_q (Ent.re [2,3] rfl) rfl (Q_ia (sz := 1) c rfl rfl hcc hc16 (show 1 + c * 1 = 1 + c by omega)) rfl rfl rfl ?_
      refine S_q (Ent.re [2,3] rfl) rfl (Q_ld 0 rfl rfl rfl hg) rfl rfl rfl ?_
      refine S_q (Ent.re [2,3] rfl) rfl ((Q_gtr rfl rfl).as (v' := .bool false) (congrArg Value.bool (decide_eq_false (by omega)))) rfl rfl rfl ?_
      refine S_nil ?_
      refine seqQ_normal ?_
      refine J_condF rfl ?_
      refine J_skip ?_
      refine blockQ_normal ?_
      refine seqQ_normal ?_
      refine J_region ?_
      refine L_q (Q_move rfl) rfl rfl rfl ?_
      refine L_q (Q_add rfl rfl (by first | exact IntWalk.i64_in _ (by omega) | exact IntWalk.u8_in _ (by omega) | exact IntWalk.u32_in _ (by omega) | exact IntWalk.u64_in _ (by omega) | rfl)) rfl rfl rfl ?_
      refine L_q (Q_assign rfl) rfl rfl rfl ?_
      refine JL_nil ?_
      exact loopQ_normal (k + 1, O) hlt (by simp only; omega) ⟨rfl, rfl, rfl, rfl, trivial⟩ (by simp only; rw [hs, h1, List.append_nil]; exact Ent.refl _)
  obtain rfl : k = L.length := by omega
  rw [List.take_length] at hol ⊢
  refine J_exit ?_
  refine seqQ_exit ?_
  refine loopQ_exit ?_
  refine blockQ_hit ?_
  refine seqQ_normal ?_
  refine J_seq ?_
  refine J_region ?_
  refine L_q (Q_fa0 rfl) rfl rfl rfl ?_
  refine L_q (Q_ld 2 rfl rfl rfl rfl) rfl rfl rfl ?_
  refine L_q (Q_lenAt 3 rfl rfl) rfl rfl rfl ?_
  refine L_q (Q_move rfl) rfl rfl rfl ?_
  refine L_q (Q_lenAt 0 rfl rfl) rfl rfl rfl ?_
  refine L_q (Q_sub rfl rfl (by first | exact IntWalk.i64_in _ (by omega) | exact IntWalk.u8_in _ (by omega) | exact IntWalk.u32_in _ (by omega) | exact IntWalk.u64_in _ (by omega) | rfl)) rfl rfl rfl ?_
  refine L_q (Q_assign rfl) rfl rfl rfl ?_
  refine JL_nil ?_
  refine seqQ_normal ?_
  refine J_seq ?_
  refine J_region ?_
  refine L_q (Q_move rfl) rfl rfl rfl ?_
  refine L_q (Q_fa0 rfl) rfl rfl rfl ?_
  refine L_s rfl rfl (O_st1 2 rfl rfl rfl rfl rfl ?_)
  refine JL.norm ?_
  refine JL_nil ?_
  refine seqQ_normal ?_
  refine J_seq ?_
  refine J_region ?_
  refine L_q (Q_ldA 2 rfl rfl rfl) rfl rfl rfl ?_
  refine L_q (Q_move rfl) rfl rfl rfl ?_
  refine L_s rfl rfl (O_stW 1 rfl rfl rfl rfl ?_)
  refine JL.norm ?_
  refine L_q (Q_assign rfl) rfl rfl rfl ?_
  refine JL_nil ?_
  refine seqQ_normal ?_
  refine J_ret ?_
  exact retQ_ret _ [slc tRq true O (rdoneL L X1), slc tRq f T l] (.cons (RV_cell 1 rfl rfl rfl rfl) (.cons (RV_tmp rfl) .nil)) ⟨O, rfl, rfl⟩ (Ent.re [0, 4, 5] rfl)
end Go.Proofs
