/- The document's timer: sent. -/
import Derived.Test.YthccpncpbghoaaaTim3
set_option autoImplicit false
namespace Go.Proofs
open Go.SL
def plc (l : List Op3) (k : Nat) (s : Int) : Bool := (l.take k).any fun y => decide (s < y.1)
def outT (l : List Op3) (k : Nat) (s : Int) (w : Wt) : List Op3 := if plc l k s = true then insT (l.take k) s w else l.take k
theorem plc_succ (l : List Op3) (k : Nat) (s : Int) (h : k < l.length) : plc l (k + 1) s = (plc l k s || decide (s < l[k].1)) := by
  unfold plc; rw [List.take_succ_eq_append_getElem h, List.any_append]; simp
theorem outT_a (l : List Op3) (k : Nat) (s : Int) (w : Wt) (h : k < l.length) (hp : plc l k s = true) : outT l (k + 1) s w = outT l k s w ++ [l[k]] := by
  unfold outT
  rw [plc_succ l k s h, hp, Bool.true_or, if_pos rfl, if_pos rfl, List.take_succ_eq_append_getElem h, insT_placed]
  unfold plc at hp
  rw [List.any_eq_true] at hp
  obtain ⟨y, h1, h2⟩ := hp
  exact ⟨y, h1, of_decide_eq_true h2⟩
theorem plc_not {l : List Op3} {k : Nat} {s : Int} (hp : plc l k s = false) : ∀ y ∈ l.take k, ¬ s < y.1 := by
  unfold plc at hp
  rw [List.any_eq_false] at hp
  intro y hy h
  exact hp y hy (decide_eq_true h)
theorem outT_b (l : List Op3) (k : Nat) (s : Int) (w : Wt) (h : k < l.length) (hp : plc l k s = false) (hs : s < l[k].1) : outT l (k + 1) s w = (outT l k s w ++ [(s, w)]) ++ [l[k]] := by
  unfold outT
  rw [plc_succ l k s h, hp, Bool.false_or, decide_eq_true hs, if_pos rfl, if_neg (by decide), List.take_succ_eq_append_getElem h, insT_behind _ _ _ _ (plc_not hp)]
  simp [insT, hs]
theorem outT_c (l : List Op3) (k : Nat) (s : Int) (w : Wt) (h : k < l.length) (hp : plc l k s = false) (hs : ¬ s < l[k].1) : outT l (k + 1) s w = outT l k s w ++ [l[k]] := by
  unfold outT
  rw [plc_succ l k s h, hp, Bool.false_or, decide_eq_false hs, if_neg (by decide), if_neg (by decide), List.take_succ_eq_append_getElem h]
theorem outT_len (l : List Op3) (k : Nat) (s : Int) (w : Wt) (h : k ≤ l.length) : (outT l k s w).length ≤ k + 1 := by
  unfold outT; split
  · rw [insT_len, List.length_take]; omega
  · rw [List.length_take]; omega
theorem outT_p (l : List Op3) (s : Int) (w : Wt) (hp : plc l l.length s = true) : outT l l.length s w = insT l s w := by
  unfold outT; rw [if_pos hp, List.take_length]
theorem outT_q (l : List Op3) (s : Int) (w : Wt) (hp : plc l l.length s = false) : insT l s w = outT l l.length s w ++ [(s, w)] := by
  unfold outT; rw [if_neg (by rw [hp]; decide), List.take_length]
  have := insT_behind (l.take l.length) [] s w (plc_not hp)
  rw [List.append_nil, List.take_length] at this
  rw [this]; rfl
attribute [local irreducible] J JL QOp JOp seqQ blockQ loopQ retQ slc cel hex star pur stars Does RV Ent pAt scopeQ
theorem rsent_ok (E : World) (most : Nat) (X : SV) (l : List Op3) (s now : Int) (hl : l.length ≤ 1000) (hm : most ≤ 64) : Does Try.prog E 19 [refT most X, .int .i64 s, .int .i64 now] [slc tO true X l] fun v L => ∃ X' : SV, v = .tuple #[refT most X', .bool (sentB most l s now)] ∧ L = [slc tO true X' (sentL most l s now)] := by
  have hmo := rmoment_ok E now
  refine Does.of Try.func19 rfl Try.ntmps19 rfl rfl fun F => ?_
  refine J.norm ?_
  repeat first
    | refine J_seq ?_
    | refine seqQ_normal ?_
    | refine J_condT rfl ?_
    | refine J_condF rfl ?_
    | refine J_block ?_
    | refine blockQ_normal ?_
    | refine J_exit ?_
    | refine seqQ_exit ?_
    | refine blockQ_hit ?_
    | refine blockQ_miss rfl ?_
    | refine J_skip ?_
    | refine J_ret ?_
    | refine seqQ_ret ?_
    | refine blockQ_ret ?_
    | refine loopQ_exit ?_
    | refine loopQ_ret ?_
    | refine J_label ?_
    | refine J_scope ?_
    | refine scopeQ_normal ?_
    | refine scopeQ_exit ?_
    | refine scopeQ_ret ?_
  refine J_region ?_
  refine L_o rfl rfl rfl (O_box rfl fun b3 => ?_)
  refine L_o rfl rfl rfl (O_alloc fun b6 => ?_)
  refine L_q (Q_assign rfl) rfl rfl rfl ?_
  refine JL_nil ?_
  repeat first
    | refine J_seq ?_
    | refine seqQ_normal ?_
    | refine J_condT rfl ?_
    | refine J_condF rfl ?_
    | refine J_block ?_
    | refine blockQ_normal ?_
    | refine J_exit ?_
    | refine seqQ_exit ?_
    | refine blockQ_hit ?_
    | refine blockQ_miss rfl ?_
    | refine J_skip ?_
    | refine J_ret ?_
    | refine seqQ_ret ?_
    | refine blockQ_ret ?_
    | refine loopQ_exit ?_
    | refine loopQ_ret ?_
    | refine J_label ?_
    | refine J_scope ?_
    | refine scopeQ_normal ?_
    | refine scopeQ_exit ?_
    | refine scopeQ_ret ?_
  by_cases h0 : s < 0
  · have hb : sentB most l s now = false := by simp [sentB, show ¬ 0 ≤ s by omega]
    have hL : sentL most l s now = l := by unfold sentL; rw [hb]; rfl
    rw [hb, hL]
    repeat first
      | refine J_seq ?_
      | refine seqQ_normal ?_
      | refine J_condT rfl ?_
      | refine J_condF rfl ?_
      | refine J_block ?_
      | refine blockQ_normal ?_
      | refine J_exit ?_
      | refine seqQ_exit ?_
      | refine blockQ_hit ?_
      | refine blockQ_miss rfl ?_
      | refine J_skip ?_
      | refine J_ret ?_
      | refine seqQ_ret ?_
      | refine blockQ_ret ?_
      | refine loopQ_exit ?_
      | refine loopQ_ret ?_
      | refine J_label ?_
      | refine J_scope ?_
      | refine scopeQ_normal ?_
      | refine scopeQ_exit ?_
      | refine scopeQ_ret ?_
    refine J_region ?_
    refine L_q (Q_move rfl) rfl rfl rfl ?_
    refine L_q ((Q_lss rfl rfl).as (v' := .bool true) (congrArg Value.bool (decide_eq_true h0))) rfl rfl rfl ?_
    refine L_q (Q_move rfl) rfl rfl rfl ?_
    refine L_n rfl rfl rfl ?_
    refine L_n rfl rfl rfl ?_
    refine L_n rfl rfl rfl ?_
    refine L_n rfl rfl rfl ?_
    refine L_n rfl rfl rfl ?_
    refine L_n rfl rfl rfl ?_
    first
      | refine L_q (Q_pickT rfl rfl) rfl rfl rfl ?_
      | refine L_q (Q_pickF rfl rfl) rfl rfl rfl ?_
      | refine L_q (Q_pickB rfl rfl rfl) rfl rfl rfl ?_
    refine L_q (Q_move rfl) rfl rfl rfl ?_
    refine L_n rfl rfl rfl ?_
    refine L_n rfl rfl rfl ?_
    refine L_n rfl rfl rfl ?_
    first
      | refine L_q (Q_pickT rfl rfl) rfl rfl rfl ?_
      | refine L_q (Q_pickF rfl rfl) rfl rfl rfl ?_
      | refine L_q (Q_pickB rfl rfl rfl) rfl rfl rfl ?_
    refine JL_nil ?_
    repeat first
      | refine J_seq ?_
      | refine seqQ_normal ?_
      | refine J_condT rfl ?_
      | refine J_condF rfl ?_
      | refine J_block ?_
      | refine blockQ_normal ?_
      | refine J_exit ?_
      | refine seqQ_exit ?_
      | refine blockQ_hit ?_
      | refine blockQ_miss rfl ?_
      | refine J_skip ?_
      | refine J_ret ?_
      | refine seqQ_ret ?_
      | refine blockQ_ret ?_
      | refine loopQ_exit ?_
      | refine loopQ_ret ?_
      | refine J_label ?_
      | refine J_scope ?_
      | refine scopeQ_normal ?_
      | refine scopeQ_exit ?_
      | refine scopeQ_ret ?_
    repeat first
      | refine J_seq ?_
      | refine seqQ_normal ?_
      | refine J_condT rfl ?_
      | refine J_condF rfl ?_
      | refine J_block ?_
      | refine blockQ_normal ?_
      | refine J_exit ?_
      | refine seqQ_exit ?_
      | refine blockQ_hit ?_
      | refine blockQ_miss rfl ?_
      | refine J_skip ?_
      | refine J_ret ?_
      | refine seqQ_ret ?_
      | refine blockQ_ret ?_
      | refine loopQ_exit ?_
      | refine loopQ_ret ?_
      | refine J_label ?_
      | refine J_scope ?_
      | refine scopeQ_normal ?_
      | refine scopeQ_exit ?_
      | refine scopeQ_ret ?_
    refine J_region ?_
    first
      | refine L_q (Q_ldA 0 rfl rfl rfl) rfl rfl rfl ?_
      | refine L_q (Q_ldA 1 rfl rfl rfl) rfl rfl rfl ?_
      | refine L_q (Q_ldA 2 rfl rfl rfl) rfl rfl rfl ?_
      | refine L_q (Q_ldA 3 rfl rfl rfl) rfl rfl rfl ?_
      | refine L_q (Q_ldA 4 rfl rfl rfl) rfl rfl rfl ?_
      | refine L_q (Q_ldA 5 rfl rfl rfl) rfl rfl rfl ?_
      | refine L_q (Q_ldA 6 rfl rfl rfl) rfl rfl rfl ?_
      | refine L_q (Q_ldA 7 rfl rfl rfl) rfl rfl rfl ?_
      | refine L_q (Q_ldA 8 rfl rfl rfl) rfl rfl rfl ?_
      | refine L_q (Q_ldA 9 rfl rfl rfl) rfl rfl rfl ?_
    first
      | refine L_s rfl rfl (O_stW 0 rfl rfl rfl rfl ?_)
      | refine L_s rfl rfl (O_stW 1 rfl rfl rfl rfl ?_)
      | refine L_s rfl rfl (O_stW 2 rfl rfl rfl rfl ?_)
      | refine L_s rfl rfl (O_stW 3 rfl rfl rfl rfl ?_)
      | refine L_s rfl rfl (O_stW 4 rfl rfl rfl rfl ?_)
      | refine L_s rfl rfl (O_stW 5 rfl rfl rfl rfl ?_)
      | refine L_s rfl rfl (O_stW 6 rfl rfl rfl rfl ?_)
      | refine L_s rfl rfl (O_stW 7 rfl rfl rfl rfl ?_)
      | refine L_s rfl rfl (O_stW 8 rfl rfl rfl rfl ?_)
      | refine L_s rfl rfl (O_stW 9 rfl rfl rfl rfl ?_)
    refine JL.norm ?_
    refine L_q (Q_assign rfl) rfl rfl rfl ?_
    refine JL_nil ?_
    repeat first
      | refine J_seq ?_
      | refine seqQ_normal ?_
      | refine J_condT rfl ?_
      | refine J_condF rfl ?_
      | refine J_block ?_
      | refine blockQ_normal ?_
      | refine J_exit ?_
      | refine seqQ_exit ?_
      | refine blockQ_hit ?_
      | refine blockQ_miss rfl ?_
      | refine J_skip ?_
      | refine J_ret ?_
      | refine seqQ_ret ?_
      | refine blockQ_ret ?_
      | refine loopQ_exit ?_
      | refine loopQ_ret ?_
      | refine J_label ?_
      | refine J_scope ?_
      | refine scopeQ_normal ?_
      | refine scopeQ_exit ?_
      | refine scopeQ_ret ?_
    exact retQ_ret _ [slc tO true X l] (.cons (RV_cell 0 rfl rfl rfl rfl) (.cons (RV_tmp rfl) .nil)) ⟨X, rfl, rfl⟩ (Ent.re [2, 3] rfl)
  by_cases h1 : most ≤ l.length
  · have hb : sentB most l s now = false := by simp [sentB, show ¬ l.length < most by omega]
    have hL : sentL most l s now = l := by unfold sentL; rw [hb]; rfl
    rw [hb, hL]
    refine J.have (p := X.n = l.length) (fun w hs => (hs.rd 2 rfl).1) fun hn => ?_
    repeat first
      | refine J_seq ?_
      | refine seqQ_normal ?_
      | refine J_condT rfl ?_
      | refine J_condF rfl ?_
      | refine J_block ?_
      | refine blockQ_normal ?_
      | refine J_exit ?_
      | refine seqQ_exit ?_
      | refine blockQ_hit ?_
      | refine blockQ_miss rfl ?_
      | refine J_skip ?_
      | refine J_ret ?_
      | refine seqQ_ret ?_
      | refine blockQ_ret ?_
      | refine loopQ_exit ?_
      | refine loopQ_ret ?_
      | refine J_label ?_
      | refine J_scope ?_
      | refine scopeQ_normal ?_
      | refine scopeQ_exit ?_
      | refine scopeQ_ret ?_
    refine J_region ?_
    refine L_q (Q_move rfl) rfl rfl rfl ?_
    refine L_q ((Q_lss rfl rfl).as (v' := .bool false) (congrArg Value.bool (decide_eq_false h0))) rfl rfl rfl ?_
    refine L_q (Q_move rfl) rfl rfl rfl ?_
    first
      | refine L_q (Q_fa0 rfl) rfl rfl rfl ?_
      | refine L_q (Q_fa rfl rfl) rfl rfl rfl ?_
      | refine L_q (Q_pfa rfl) rfl rfl rfl ?_
    first
      | refine L_q (Q_ld 0 rfl rfl rfl rfl) rfl rfl rfl ?_
      | refine L_q (Q_ld 1 rfl rfl rfl rfl) rfl rfl rfl ?_
      | refine L_q (Q_ld 2 rfl rfl rfl rfl) rfl rfl rfl ?_
      | refine L_q (Q_ld 3 rfl rfl rfl rfl) rfl rfl rfl ?_
      | refine L_q (Q_ld 4 rfl rfl rfl rfl) rfl rfl rfl ?_
      | refine L_q (Q_ld 5 rfl rfl rfl rfl) rfl rfl rfl ?_
      | refine L_q (Q_ld 6 rfl rfl rfl rfl) rfl rfl rfl ?_
      | refine L_q (Q_ld 7 rfl rfl rfl rfl) rfl rfl rfl ?_
      | refine L_q (Q_ld 8 rfl rfl rfl rfl) rfl rfl rfl ?_
      | refine L_q (Q_ld 9 rfl rfl rfl rfl) rfl rfl rfl ?_
    first
      | refine L_q (Q_lenAt 0 rfl rfl) rfl rfl rfl ?_
      | refine L_q (Q_lenAt 1 rfl rfl) rfl rfl rfl ?_
      | refine L_q (Q_lenAt 2 rfl rfl) rfl rfl rfl ?_
      | refine L_q (Q_lenAt 3 rfl rfl) rfl rfl rfl ?_
      | refine L_q (Q_lenAt 4 rfl rfl) rfl rfl rfl ?_
      | refine L_q (Q_lenAt 5 rfl rfl) rfl rfl rfl ?_
      | refine L_q (Q_lenAt 6 rfl rfl) rfl rfl rfl ?_
      | refine L_q (Q_lenAt 7 rfl rfl) rfl rfl rfl ?_
      | refine L_q (Q_lenAt 8 rfl rfl) rfl rfl rfl ?_
      | refine L_q (Q_lenAt 9 rfl rfl) rfl rfl rfl ?_
    first
      | refine L_q (Q_fa0 rfl) rfl rfl rfl ?_
      | refine L_q (Q_fa rfl rfl) rfl rfl rfl ?_
      | refine L_q (Q_pfa rfl) rfl rfl rfl ?_
    first
      | refine L_q (Q_ld 0 rfl rfl rfl rfl) rfl rfl rfl ?_
      | refine L_q (Q_ld 1 rfl rfl rfl rfl) rfl rfl rfl ?_
      | refine L_q (Q_ld 2 rfl rfl rfl rfl) rfl rfl rfl ?_
      | refine L_q (Q_ld 3 rfl rfl rfl rfl) rfl rfl rfl ?_
      | refine L_q (Q_ld 4 rfl rfl rfl rfl) rfl rfl rfl ?_
      | refine L_q (Q_ld 5 rfl rfl rfl rfl) rfl rfl rfl ?_
      | refine L_q (Q_ld 6 rfl rfl rfl rfl) rfl rfl rfl ?_
      | refine L_q (Q_ld 7 rfl rfl rfl rfl) rfl rfl rfl ?_
      | refine L_q (Q_ld 8 rfl rfl rfl rfl) rfl rfl rfl ?_
      | refine L_q (Q_ld 9 rfl rfl rfl rfl) rfl rfl rfl ?_
    refine L_q ((Q_geq rfl rfl).as (v' := .bool true) (congrArg Value.bool (decide_eq_true (by omega)))) rfl rfl rfl ?_
    first
      | refine L_q (Q_pickT rfl rfl) rfl rfl rfl ?_
      | refine L_q (Q_pickF rfl rfl) rfl rfl rfl ?_
      | refine L_q (Q_pickB rfl rfl rfl) rfl rfl rfl ?_
    refine L_q (Q_move rfl) rfl rfl rfl ?_
    refine L_n rfl rfl rfl ?_
    refine L_n rfl rfl rfl ?_
    refine L_n rfl rfl rfl ?_
    first
      | refine L_q (Q_pickT rfl rfl) rfl rfl rfl ?_
      | refine L_q (Q_pickF rfl rfl) rfl rfl rfl ?_
      | refine L_q (Q_pickB rfl rfl rfl) rfl rfl rfl ?_
    refine JL_nil ?_
    repeat first
      | refine J_seq ?_
      | refine seqQ_normal ?_
      | refine J_condT rfl ?_
      | refine J_condF rfl ?_
      | refine J_block ?_
      | refine blockQ_normal ?_
      | refine J_exit ?_
      | refine seqQ_exit ?_
      | refine blockQ_hit ?_
      | refine blockQ_miss rfl ?_
      | refine J_skip ?_
      | refine J_ret ?_
      | refine seqQ_ret ?_
      | refine blockQ_ret ?_
      | refine loopQ_exit ?_
      | refine loopQ_ret ?_
      | refine J_label ?_
      | refine J_scope ?_
      | refine scopeQ_normal ?_
      | refine scopeQ_exit ?_
      | refine scopeQ_ret ?_
    repeat first
      | refine J_seq ?_
      | refine seqQ_normal ?_
      | refine J_condT rfl ?_
      | refine J_condF rfl ?_
      | refine J_block ?_
      | refine blockQ_normal ?_
      | refine J_exit ?_
      | refine seqQ_exit ?_
      | refine blockQ_hit ?_
      | refine blockQ_miss rfl ?_
      | refine J_skip ?_
      | refine J_ret ?_
      | refine seqQ_ret ?_
      | refine blockQ_ret ?_
      | refine loopQ_exit ?_
      | refine loopQ_ret ?_
      | refine J_label ?_
      | refine J_scope ?_
      | refine scopeQ_normal ?_
      | refine scopeQ_exit ?_
      | refine scopeQ_ret ?_
    refine J_region ?_
    first
      | refine L_q (Q_ldA 0 rfl rfl rfl) rfl rfl rfl ?_
      | refine L_q (Q_ldA 1 rfl rfl rfl) rfl rfl rfl ?_
      | refine L_q (Q_ldA 2 rfl rfl rfl) rfl rfl rfl ?_
      | refine L_q (Q_ldA 3 rfl rfl rfl) rfl rfl rfl ?_
      | refine L_q (Q_ldA 4 rfl rfl rfl) rfl rfl rfl ?_
      | refine L_q (Q_ldA 5 rfl rfl rfl) rfl rfl rfl ?_
      | refine L_q (Q_ldA 6 rfl rfl rfl) rfl rfl rfl ?_
      | refine L_q (Q_ldA 7 rfl rfl rfl) rfl rfl rfl ?_
      | refine L_q (Q_ldA 8 rfl rfl rfl) rfl rfl rfl ?_
      | refine L_q (Q_ldA 9 rfl rfl rfl) rfl rfl rfl ?_
    first
      | refine L_s rfl rfl (O_stW 0 rfl rfl rfl rfl ?_)
      | refine L_s rfl rfl (O_stW 1 rfl rfl rfl rfl ?_)
      | refine L_s rfl rfl (O_stW 2 rfl rfl rfl rfl ?_)
      | refine L_s rfl rfl (O_stW 3 rfl rfl rfl rfl ?_)
      | refine L_s rfl rfl (O_stW 4 rfl rfl rfl rfl ?_)
      | refine L_s rfl rfl (O_stW 5 rfl rfl rfl rfl ?_)
      | refine L_s rfl rfl (O_stW 6 rfl rfl rfl rfl ?_)
      | refine L_s rfl rfl (O_stW 7 rfl rfl rfl rfl ?_)
      | refine L_s rfl rfl (O_stW 8 rfl rfl rfl rfl ?_)
      | refine L_s rfl rfl (O_stW 9 rfl rfl rfl rfl ?_)
    refine JL.norm ?_
    refine L_q (Q_assign rfl) rfl rfl rfl ?_
    refine JL_nil ?_
    repeat first
      | refine J_seq ?_
      | refine seqQ_normal ?_
      | refine J_condT rfl ?_
      | refine J_condF rfl ?_
      | refine J_block ?_
      | refine blockQ_normal ?_
      | refine J_exit ?_
      | refine seqQ_exit ?_
      | refine blockQ_hit ?_
      | refine blockQ_miss rfl ?_
      | refine J_skip ?_
      | refine J_ret ?_
      | refine seqQ_ret ?_
      | refine blockQ_ret ?_
      | refine loopQ_exit ?_
      | refine loopQ_ret ?_
      | refine J_label ?_
      | refine J_scope ?_
      | refine scopeQ_normal ?_
      | refine scopeQ_exit ?_
      | refine scopeQ_ret ?_
    exact retQ_ret _ [slc tO true X l] (.cons (RV_cell 0 rfl rfl rfl rfl) (.cons (RV_tmp rfl) .nil)) ⟨X, rfl, rfl⟩ (Ent.re [2, 3] rfl)
  cases hq : moment now with
  | false =>
    rw [hq] at hmo
    have hb : sentB most l s now = false := by simp [sentB, hq]
    have hL : sentL most l s now = l := by unfold sentL; rw [hb]; rfl
    rw [hb, hL]
    refine J.have (p := X.n = l.length) (fun w hs => (hs.rd 2 rfl).1) fun hn => ?_
    repeat first
      | refine J_seq ?_
      | refine seqQ_normal ?_
      | refine J_condT rfl ?_
      | refine J_condF rfl ?_
      | refine J_block ?_
      | refine blockQ_normal ?_
      | refine J_exit ?_
      | refine seqQ_exit ?_
      | refine blockQ_hit ?_
      | refine blockQ_miss rfl ?_
      | refine J_skip ?_
      | refine J_ret ?_
      | refine seqQ_ret ?_
      | refine blockQ_ret ?_
      | refine loopQ_exit ?_
      | refine loopQ_ret ?_
      | refine J_label ?_
      | refine J_scope ?_
      | refine scopeQ_normal ?_
      | refine scopeQ_exit ?_
      | refine scopeQ_ret ?_
    refine J_region ?_
    refine L_q (Q_move rfl) rfl rfl rfl ?_
    refine L_q ((Q_lss rfl rfl).as (v' := .bool false) (congrArg Value.bool (decide_eq_false h0))) rfl rfl rfl ?_
    refine L_q (Q_move rfl) rfl rfl rfl ?_
    first
      | refine L_q (Q_fa0 rfl) rfl rfl rfl ?_
      | refine L_q (Q_fa rfl rfl) rfl rfl rfl ?_
      | refine L_q (Q_pfa rfl) rfl rfl rfl ?_
    first
      | refine L_q (Q_ld 0 rfl rfl rfl rfl) rfl rfl rfl ?_
      | refine L_q (Q_ld 1 rfl rfl rfl rfl) rfl rfl rfl ?_
      | refine L_q (Q_ld 2 rfl rfl rfl rfl) rfl rfl rfl ?_
      | refine L_q (Q_ld 3 rfl rfl rfl rfl) rfl rfl rfl ?_
      | refine L_q (Q_ld 4 rfl rfl rfl rfl) rfl rfl rfl ?_
      | refine L_q (Q_ld 5 rfl rfl rfl rfl) rfl rfl rfl ?_
      | refine L_q (Q_ld 6 rfl rfl rfl rfl) rfl rfl rfl ?_
      | refine L_q (Q_ld 7 rfl rfl rfl rfl) rfl rfl rfl ?_
      | refine L_q (Q_ld 8 rfl rfl rfl rfl) rfl rfl rfl ?_
      | refine L_q (Q_ld 9 rfl rfl rfl rfl) rfl rfl rfl ?_
    first
      | refine L_q (Q_lenAt 0 rfl rfl) rfl rfl rfl ?_
      | refine L_q (Q_lenAt 1 rfl rfl) rfl rfl rfl ?_
      | refine L_q (Q_lenAt 2 rfl rfl) rfl rfl rfl ?_
      | refine L_q (Q_lenAt 3 rfl rfl) rfl rfl rfl ?_
      | refine L_q (Q_lenAt 4 rfl rfl) rfl rfl rfl ?_
      | refine L_q (Q_lenAt 5 rfl rfl) rfl rfl rfl ?_
      | refine L_q (Q_lenAt 6 rfl rfl) rfl rfl rfl ?_
      | refine L_q (Q_lenAt 7 rfl rfl) rfl rfl rfl ?_
      | refine L_q (Q_lenAt 8 rfl rfl) rfl rfl rfl ?_
      | refine L_q (Q_lenAt 9 rfl rfl) rfl rfl rfl ?_
    first
      | refine L_q (Q_fa0 rfl) rfl rfl rfl ?_
      | refine L_q (Q_fa rfl rfl) rfl rfl rfl ?_
      | refine L_q (Q_pfa rfl) rfl rfl rfl ?_
    first
      | refine L_q (Q_ld 0 rfl rfl rfl rfl) rfl rfl rfl ?_
      | refine L_q (Q_ld 1 rfl rfl rfl rfl) rfl rfl rfl ?_
      | refine L_q (Q_ld 2 rfl rfl rfl rfl) rfl rfl rfl ?_
      | refine L_q (Q_ld 3 rfl rfl rfl rfl) rfl rfl rfl ?_
      | refine L_q (Q_ld 4 rfl rfl rfl rfl) rfl rfl rfl ?_
      | refine L_q (Q_ld 5 rfl rfl rfl rfl) rfl rfl rfl ?_
      | refine L_q (Q_ld 6 rfl rfl rfl rfl) rfl rfl rfl ?_
      | refine L_q (Q_ld 7 rfl rfl rfl rfl) rfl rfl rfl ?_
      | refine L_q (Q_ld 8 rfl rfl rfl rfl) rfl rfl rfl ?_
      | refine L_q (Q_ld 9 rfl rfl rfl rfl) rfl rfl rfl ?_
    refine L_q ((Q_geq rfl rfl).as (v' := .bool false) (congrArg Value.bool (decide_eq_false (by omega)))) rfl rfl rfl ?_
    first
      | refine L_q (Q_pickT rfl rfl) rfl rfl rfl ?_
      | refine L_q (Q_pickF rfl rfl) rfl rfl rfl ?_
      | refine L_q (Q_pickB rfl rfl rfl) rfl rfl rfl ?_
    refine L_q (Q_move rfl) rfl rfl rfl ?_
    refine L_q (Q_move rfl) rfl rfl rfl ?_
    refine L_o rfl rfl rfl (O_call [] [0,1,2,3] hmo rfl rfl ?_)
    rintro _ _ ⟨rfl, rfl⟩
    refine JL.norm ?_
    first
      | refine L_q (Q_notD rfl) rfl rfl rfl ?_
      | refine L_q (Q_not rfl) rfl rfl rfl ?_
    first
      | refine L_q (Q_pickT rfl rfl) rfl rfl rfl ?_
      | refine L_q (Q_pickF rfl rfl) rfl rfl rfl ?_
      | refine L_q (Q_pickB rfl rfl rfl) rfl rfl rfl ?_
    refine JL_nil ?_
    repeat first
      | refine J_seq ?_
      | refine seqQ_normal ?_
      | refine J_condT rfl ?_
      | refine J_condF rfl ?_
      | refine J_block ?_
      | refine blockQ_normal ?_
      | refine J_exit ?_
      | refine seqQ_exit ?_
      | refine blockQ_hit ?_
      | refine blockQ_miss rfl ?_
      | refine J_skip ?_
      | refine J_ret ?_
      | refine seqQ_ret ?_
      | refine blockQ_ret ?_
      | refine loopQ_exit ?_
      | refine loopQ_ret ?_
      | refine J_label ?_
      | refine J_scope ?_
      | refine scopeQ_normal ?_
      | refine scopeQ_exit ?_
      | refine scopeQ_ret ?_
    repeat first
      | refine J_seq ?_
      | refine seqQ_normal ?_
      | refine J_condT rfl ?_
      | refine J_condF rfl ?_
      | refine J_block ?_
      | refine blockQ_normal ?_
      | refine J_exit ?_
      | refine seqQ_exit ?_
      | refine blockQ_hit ?_
      | refine blockQ_miss rfl ?_
      | refine J_skip ?_
      | refine J_ret ?_
      | refine seqQ_ret ?_
      | refine blockQ_ret ?_
      | refine loopQ_exit ?_
      | refine loopQ_ret ?_
      | refine J_label ?_
      | refine J_scope ?_
      | refine scopeQ_normal ?_
      | refine scopeQ_exit ?_
      | refine scopeQ_ret ?_
    refine J_region ?_
    first
      | refine L_q (Q_ldA 0 rfl rfl rfl) rfl rfl rfl ?_
      | refine L_q (Q_ldA 1 rfl rfl rfl) rfl rfl rfl ?_
      | refine L_q (Q_ldA 2 rfl rfl rfl) rfl rfl rfl ?_
      | refine L_q (Q_ldA 3 rfl rfl rfl) rfl rfl rfl ?_
      | refine L_q (Q_ldA 4 rfl rfl rfl) rfl rfl rfl ?_
      | refine L_q (Q_ldA 5 rfl rfl rfl) rfl rfl rfl ?_
      | refine L_q (Q_ldA 6 rfl rfl rfl) rfl rfl rfl ?_
      | refine L_q (Q_ldA 7 rfl rfl rfl) rfl rfl rfl ?_
      | refine L_q (Q_ldA 8 rfl rfl rfl) rfl rfl rfl ?_
      | refine L_q (Q_ldA 9 rfl rfl rfl) rfl rfl rfl ?_
    first
      | refine L_s rfl rfl (O_stW 0 rfl rfl rfl rfl ?_)
      | refine L_s rfl rfl (O_stW 1 rfl rfl rfl rfl ?_)
      | refine L_s rfl rfl (O_stW 2 rfl rfl rfl rfl ?_)
      | refine L_s rfl rfl (O_stW 3 rfl rfl rfl rfl ?_)
      | refine L_s rfl rfl (O_stW 4 rfl rfl rfl rfl ?_)
      | refine L_s rfl rfl (O_stW 5 rfl rfl rfl rfl ?_)
      | refine L_s rfl rfl (O_stW 6 rfl rfl rfl rfl ?_)
      | refine L_s rfl rfl (O_stW 7 rfl rfl rfl rfl ?_)
      | refine L_s rfl rfl (O_stW 8 rfl rfl rfl rfl ?_)
      | refine L_s rfl rfl (O_stW 9 rfl rfl rfl rfl ?_)
    refine JL.norm ?_
    refine L_q (Q_assign rfl) rfl rfl rfl ?_
    refine JL_nil ?_
    repeat first
      | refine J_seq ?_
      | refine seqQ_normal ?_
      | refine J_condT rfl ?_
      | refine J_condF rfl ?_
      | refine J_block ?_
      | refine blockQ_normal ?_
      | refine J_exit ?_
      | refine seqQ_exit ?_
      | refine blockQ_hit ?_
      | refine blockQ_miss rfl ?_
      | refine J_skip ?_
      | refine J_ret ?_
      | refine seqQ_ret ?_
      | refine blockQ_ret ?_
      | refine loopQ_exit ?_
      | refine loopQ_ret ?_
      | refine J_label ?_
      | refine J_scope ?_
      | refine scopeQ_normal ?_
      | refine scopeQ_exit ?_
      | refine scopeQ_ret ?_
    exact retQ_ret _ [slc tO true X l] (.cons (RV_cell 0 rfl rfl rfl rfl) (.cons (RV_tmp rfl) .nil)) ⟨X, rfl, rfl⟩ (Ent.re [2, 3] rfl)
  | true =>
  rw [hq] at hmo
  have hmm : 0 ≤ now ∧ now ≤ 1099511627776 := by simpa [moment] using hq
  refine J.have (p := X.n = l.length) (fun w hs => (hs.rd 2 rfl).1) fun hn => ?_
  repeat first
    | refine J_seq ?_
    | refine seqQ_normal ?_
    | refine J_condT rfl ?_
    | refine J_condF rfl ?_
    | refine J_block ?_
    | refine blockQ_normal ?_
    | refine J_exit ?_
    | refine seqQ_exit ?_
    | refine blockQ_hit ?_
    | refine blockQ_miss rfl ?_
    | refine J_skip ?_
    | refine J_ret ?_
    | refine seqQ_ret ?_
    | refine blockQ_ret ?_
    | refine loopQ_exit ?_
    | refine loopQ_ret ?_
    | refine J_label ?_
    | refine J_scope ?_
    | refine scopeQ_normal ?_
    | refine scopeQ_exit ?_
    | refine scopeQ_ret ?_
  refine J_region ?_
  refine L_q (Q_move rfl) rfl rfl rfl ?_
  refine L_q ((Q_lss rfl rfl).as (v' := .bool false) (congrArg Value.bool (decide_eq_false h0))) rfl rfl rfl ?_
  refine L_q (Q_move rfl) rfl rfl rfl ?_
  first
    | refine L_q (Q_fa0 rfl) rfl rfl rfl ?_
    | refine L_q (Q_fa rfl rfl) rfl rfl rfl ?_
    | refine L_q (Q_pfa rfl) rfl rfl rfl ?_
  first
    | refine L_q (Q_ld 0 rfl rfl rfl rfl) rfl rfl rfl ?_
    | refine L_q (Q_ld 1 rfl rfl rfl rfl) rfl rfl rfl ?_
    | refine L_q (Q_ld 2 rfl rfl rfl rfl) rfl rfl rfl ?_
    | refine L_q (Q_ld 3 rfl rfl rfl rfl) rfl rfl rfl ?_
    | refine L_q (Q_ld 4 rfl rfl rfl rfl) rfl rfl rfl ?_
    | refine L_q (Q_ld 5 rfl rfl rfl rfl) rfl rfl rfl ?_
    | refine L_q (Q_ld 6 rfl rfl rfl rfl) rfl rfl rfl ?_
    | refine L_q (Q_ld 7 rfl rfl rfl rfl) rfl rfl rfl ?_
    | refine L_q (Q_ld 8 rfl rfl rfl rfl) rfl rfl rfl ?_
    | refine L_q (Q_ld 9 rfl rfl rfl rfl) rfl rfl rfl ?_
  first
    | refine L_q (Q_lenAt 0 rfl rfl) rfl rfl rfl ?_
    | refine L_q (Q_lenAt 1 rfl rfl) rfl rfl rfl ?_
    | refine L_q (Q_lenAt 2 rfl rfl) rfl rfl rfl ?_
    | refine L_q (Q_lenAt 3 rfl rfl) rfl rfl rfl ?_
    | refine L_q (Q_lenAt 4 rfl rfl) rfl rfl rfl ?_
    | refine L_q (Q_lenAt 5 rfl rfl) rfl rfl rfl ?_
    | refine L_q (Q_lenAt 6 rfl rfl) rfl rfl rfl ?_
    | refine L_q (Q_lenAt 7 rfl rfl) rfl rfl rfl ?_
    | refine L_q (Q_lenAt 8 rfl rfl) rfl rfl rfl ?_
    | refine L_q (Q_lenAt 9 rfl rfl) rfl rfl rfl ?_
  first
    | refine L_q (Q_fa0 rfl) rfl rfl rfl ?_
    | refine L_q (Q_fa rfl rfl) rfl rfl rfl ?_
    | refine L_q (Q_pfa rfl) rfl rfl rfl ?_
  first
    | refine L_q (Q_ld 0 rfl rfl rfl rfl) rfl rfl rfl ?_
    | refine L_q (Q_ld 1 rfl rfl rfl rfl) rfl rfl rfl ?_
    | refine L_q (Q_ld 2 rfl rfl rfl rfl) rfl rfl rfl ?_
    | refine L_q (Q_ld 3 rfl rfl rfl rfl) rfl rfl rfl ?_
    | refine L_q (Q_ld 4 rfl rfl rfl rfl) rfl rfl rfl ?_
    | refine L_q (Q_ld 5 rfl rfl rfl rfl) rfl rfl rfl ?_
    | refine L_q (Q_ld 6 rfl rfl rfl rfl) rfl rfl rfl ?_
    | refine L_q (Q_ld 7 rfl rfl rfl rfl) rfl rfl rfl ?_
    | refine L_q (Q_ld 8 rfl rfl rfl rfl) rfl rfl rfl ?_
    | refine L_q (Q_ld 9 rfl rfl rfl rfl) rfl rfl rfl ?_
  refine L_q ((Q_geq rfl rfl).as (v' := .bool false) (congrArg Value.bool (decide_eq_false (by omega)))) rfl rfl rfl ?_
  first
    | refine L_q (Q_pickT rfl rfl) rfl rfl rfl ?_
    | refine L_q (Q_pickF rfl rfl) rfl rfl rfl ?_
    | refine L_q (Q_pickB rfl rfl rfl) rfl rfl rfl ?_
  refine L_q (Q_move rfl) rfl rfl rfl ?_
  refine L_q (Q_move rfl) rfl rfl rfl ?_
  refine L_o rfl rfl rfl (O_call [] [0,1,2,3] hmo rfl rfl ?_)
  rintro _ _ ⟨rfl, rfl⟩
  refine JL.norm ?_
  first
    | refine L_q (Q_notD rfl) rfl rfl rfl ?_
    | refine L_q (Q_not rfl) rfl rfl rfl ?_
  first
    | refine L_q (Q_pickT rfl rfl) rfl rfl rfl ?_
    | refine L_q (Q_pickF rfl rfl) rfl rfl rfl ?_
    | refine L_q (Q_pickB rfl rfl rfl) rfl rfl rfl ?_
  refine JL_nil ?_
  repeat first
    | refine J_seq ?_
    | refine seqQ_normal ?_
    | refine J_condT rfl ?_
    | refine J_condF rfl ?_
    | refine J_block ?_
    | refine blockQ_normal ?_
    | refine J_exit ?_
    | refine seqQ_exit ?_
    | refine blockQ_hit ?_
    | refine blockQ_miss rfl ?_
    | refine J_skip ?_
    | refine J_ret ?_
    | refine seqQ_ret ?_
    | refine blockQ_ret ?_
    | refine loopQ_exit ?_
    | refine loopQ_ret ?_
    | refine J_label ?_
    | refine J_scope ?_
    | refine scopeQ_normal ?_
    | refine scopeQ_exit ?_
    | refine scopeQ_ret ?_
  repeat first
    | refine J_seq ?_
    | refine seqQ_normal ?_
    | refine J_condT rfl ?_
    | refine J_condF rfl ?_
    | refine J_block ?_
    | refine blockQ_normal ?_
    | refine J_exit ?_
    | refine seqQ_exit ?_
    | refine blockQ_hit ?_
    | refine blockQ_miss rfl ?_
    | refine J_skip ?_
    | refine J_ret ?_
    | refine seqQ_ret ?_
    | refine blockQ_ret ?_
    | refine loopQ_exit ?_
    | refine loopQ_ret ?_
    | refine J_label ?_
    | refine J_scope ?_
    | refine scopeQ_normal ?_
    | refine scopeQ_exit ?_
    | refine scopeQ_ret ?_
  refine J_region ?_
  refine L_q (Q_assign rfl) rfl rfl rfl ?_
  refine JL_nil ?_
  repeat first
    | refine J_seq ?_
    | refine seqQ_normal ?_
    | refine J_condT rfl ?_
    | refine J_condF rfl ?_
    | refine J_block ?_
    | refine blockQ_normal ?_
    | refine J_exit ?_
    | refine seqQ_exit ?_
    | refine blockQ_hit ?_
    | refine blockQ_miss rfl ?_
    | refine J_skip ?_
    | refine J_ret ?_
    | refine seqQ_ret ?_
    | refine blockQ_ret ?_
    | refine loopQ_exit ?_
    | refine loopQ_ret ?_
    | refine J_label ?_
    | refine J_scope ?_
    | refine scopeQ_normal ?_
    | refine scopeQ_exit ?_
    | refine scopeQ_ret ?_
  repeat first
    | refine J_seq ?_
    | refine seqQ_normal ?_
    | refine J_condT rfl ?_
    | refine J_condF rfl ?_
    | refine J_block ?_
    | refine blockQ_normal ?_
    | refine J_exit ?_
    | refine seqQ_exit ?_
    | refine blockQ_hit ?_
    | refine blockQ_miss rfl ?_
    | refine J_skip ?_
    | refine J_ret ?_
    | refine seqQ_ret ?_
    | refine blockQ_ret ?_
    | refine loopQ_exit ?_
    | refine loopQ_ret ?_
    | refine J_label ?_
    | refine J_scope ?_
    | refine scopeQ_normal ?_
    | refine scopeQ_exit ?_
    | refine scopeQ_ret ?_
  refine J_region ?_
  refine L_q (Q_assign rfl) rfl rfl rfl ?_
  refine JL_nil ?_
  repeat first
    | refine J_seq ?_
    | refine seqQ_normal ?_
    | refine J_condT rfl ?_
    | refine J_condF rfl ?_
    | refine J_block ?_
    | refine blockQ_normal ?_
    | refine J_exit ?_
    | refine seqQ_exit ?_
    | refine blockQ_hit ?_
    | refine blockQ_miss rfl ?_
    | refine J_skip ?_
    | refine J_ret ?_
    | refine seqQ_ret ?_
    | refine blockQ_ret ?_
    | refine loopQ_exit ?_
    | refine loopQ_ret ?_
    | refine J_label ?_
    | refine J_scope ?_
    | refine scopeQ_normal ?_
    | refine scopeQ_exit ?_
    | refine scopeQ_ret ?_
  repeat first
    | refine J_seq ?_
    | refine seqQ_normal ?_
    | refine J_condT rfl ?_
    | refine J_condF rfl ?_
    | refine J_block ?_
    | refine blockQ_normal ?_
    | refine J_exit ?_
    | refine seqQ_exit ?_
    | refine blockQ_hit ?_
    | refine blockQ_miss rfl ?_
    | refine J_skip ?_
    | refine J_ret ?_
    | refine seqQ_ret ?_
    | refine blockQ_ret ?_
    | refine loopQ_exit ?_
    | refine loopQ_ret ?_
    | refine J_label ?_
    | refine J_scope ?_
    | refine scopeQ_normal ?_
    | refine scopeQ_exit ?_
    | refine scopeQ_ret ?_
  refine J_region ?_
  refine L_q (Q_assign rfl) rfl rfl rfl ?_
  refine JL_nil ?_
  repeat first
    | refine J_seq ?_
    | refine seqQ_normal ?_
    | refine J_condT rfl ?_
    | refine J_condF rfl ?_
    | refine J_block ?_
    | refine blockQ_normal ?_
    | refine J_exit ?_
    | refine seqQ_exit ?_
    | refine blockQ_hit ?_
    | refine blockQ_miss rfl ?_
    | refine J_skip ?_
    | refine J_ret ?_
    | refine seqQ_ret ?_
    | refine blockQ_ret ?_
    | refine loopQ_exit ?_
    | refine loopQ_ret ?_
    | refine J_label ?_
    | refine J_scope ?_
    | refine scopeQ_normal ?_
    | refine scopeQ_exit ?_
    | refine scopeQ_ret ?_
  refine J.ent (Ent.mk fun _ _ h => (h.lay_nil tO true : Sat _ _ (slc tO true SV.nil [] :: _))) ?_
  refine J_loop (fun i : Nat × SV => i.1 ≤ l.length ∧ mget (l.take i.1) s = none) (fun i => [(1, .int .i64 s), (2, .int .i64 now), (3, .pointer (some ⟨b3, 0, none⟩)), (6, .pointer (some ⟨b6, 0, none⟩)), (8, i.2.v), (9, .bool (plc l i.1 s)), (10, .int .i64 (i.1 : Int))])
    (fun i => [slc tO true i.2 (outT l i.1 s (now + 4, 8)), cel b6 [.int .i64 0, .slice none 0 0] 41, cel b3 [.int .i64 (most : Int), X.v] 41, slc tO true X l, F]) (fun i => l.length - i.1) (0, SV.nil) ⟨by simp, rfl⟩ ⟨rfl, rfl, rfl, rfl, rfl, rfl, rfl, trivial⟩ (Ent.refl _) ?_
  rintro ⟨k, S⟩ ⟨hk, hnone⟩
  dsimp only at hk hnone ⊢
  have hol := outT_len l k s (now + 4, 8) hk
  repeat first
    | refine J_seq ?_
    | refine seqQ_normal ?_
    | refine J_condT rfl ?_
    | refine J_condF rfl ?_
    | refine J_block ?_
    | refine blockQ_normal ?_
    | refine J_exit ?_
    | refine seqQ_exit ?_
    | refine blockQ_hit ?_
    | refine blockQ_miss rfl ?_
    | refine J_skip ?_
    | refine J_ret ?_
    | refine seqQ_ret ?_
    | refine blockQ_ret ?_
    | refine loopQ_exit ?_
    | refine loopQ_ret ?_
    | refine J_label ?_
    | refine J_scope ?_
    | refine scopeQ_normal ?_
    | refine scopeQ_exit ?_
    | refine scopeQ_ret ?_
  refine J_region ?_
  refine L_q (Q_move rfl) rfl rfl rfl ?_
  first
    | refine L_q (Q_fa0 rfl) rfl rfl rfl ?_
    | refine L_q (Q_fa rfl rfl) rfl rfl rfl ?_
    | refine L_q (Q_pfa rfl) rfl rfl rfl ?_
  first
    | refine L_q (Q_ld 0 rfl rfl rfl rfl) rfl rfl rfl ?_
    | refine L_q (Q_ld 1 rfl rfl rfl rfl) rfl rfl rfl ?_
    | refine L_q (Q_ld 2 rfl rfl rfl rfl) rfl rfl rfl ?_
    | refine L_q (Q_ld 3 rfl rfl rfl rfl) rfl rfl rfl ?_
    | refine L_q (Q_ld 4 rfl rfl rfl rfl) rfl rfl rfl ?_
    | refine L_q (Q_ld 5 rfl rfl rfl rfl) rfl rfl rfl ?_
    | refine L_q (Q_ld 6 rfl rfl rfl rfl) rfl rfl rfl ?_
    | refine L_q (Q_ld 7 rfl rfl rfl rfl) rfl rfl rfl ?_
    | refine L_q (Q_ld 8 rfl rfl rfl rfl) rfl rfl rfl ?_
    | refine L_q (Q_ld 9 rfl rfl rfl rfl) rfl rfl rfl ?_
  first
    | refine L_q (Q_lenAt 0 rfl rfl) rfl rfl rfl ?_
    | refine L_q (Q_lenAt 1 rfl rfl) rfl rfl rfl ?_
    | refine L_q (Q_lenAt 2 rfl rfl) rfl rfl rfl ?_
    | refine L_q (Q_lenAt 3 rfl rfl) rfl rfl rfl ?_
    | refine L_q (Q_lenAt 4 rfl rfl) rfl rfl rfl ?_
    | refine L_q (Q_lenAt 5 rfl rfl) rfl rfl rfl ?_
    | refine L_q (Q_lenAt 6 rfl rfl) rfl rfl rfl ?_
    | refine L_q (Q_lenAt 7 rfl rfl) rfl rfl rfl ?_
    | refine L_q (Q_lenAt 8 rfl rfl) rfl rfl rfl ?_
    | refine L_q (Q_lenAt 9 rfl rfl) rfl rfl rfl ?_
  refine L_q (Q_lss rfl rfl) rfl rfl rfl ?_
  refine JL_nil ?_
  repeat first
    | refine J_seq ?_
    | refine seqQ_normal ?_
    | refine J_condT rfl ?_
    | refine J_condF rfl ?_
    | refine J_block ?_
    | refine blockQ_normal ?_
    | refine J_exit ?_
    | refine seqQ_exit ?_
    | refine blockQ_hit ?_
    | refine blockQ_miss rfl ?_
    | refine J_skip ?_
    | refine J_ret ?_
    | refine seqQ_ret ?_
    | refine blockQ_ret ?_
    | refine loopQ_exit ?_
    | refine loopQ_ret ?_
    | refine J_label ?_
    | refine J_scope ?_
    | refine scopeQ_normal ?_
    | refine scopeQ_exit ?_
    | refine scopeQ_ret ?_
  refine J_condD rfl (fun h => ?_) (fun h => ?_)
  · have hlt : k < l.length := by omega
    have hgx : mget (l.take (k + 1)) s = if l[k].1 = s then some l[k].2 else none := by
      rw [List.take_succ_eq_append_getElem hlt, mget_app, hnone]; simp only [mget_cons]; rfl
    by_cases he : l[k].1 = s
    · rw [if_pos he] at hgx
      have hg : (mget l s).isNone = false := by
        have := mget_app (l.take (k + 1)) (l.drop (k + 1)) s
        rw [hgx, List.take_append_drop] at this
        rw [this]; rfl
      have hb : sentB most l s now = false := by simp only [sentB, hg, Bool.and_false]
      have hL : sentL most l s now = l := by unfold sentL; rw [hb]; rfl
      rw [hb, hL]
      repeat first
        | refine J_seq ?_
        | refine seqQ_normal ?_
        | refine J_condT rfl ?_
        | refine J_condF rfl ?_
        | refine J_block ?_
        | refine blockQ_normal ?_
        | refine J_exit ?_
        | refine seqQ_exit ?_
        | refine blockQ_hit ?_
        | refine blockQ_miss rfl ?_
        | refine J_skip ?_
        | refine J_ret ?_
        | refine seqQ_ret ?_
        | refine blockQ_ret ?_
        | refine loopQ_exit ?_
        | refine loopQ_ret ?_
        | refine J_label ?_
        | refine J_scope ?_
        | refine scopeQ_normal ?_
        | refine scopeQ_exit ?_
        | refine scopeQ_ret ?_
      refine J_region ?_
      first
        | refine L_q (Q_fa0 rfl) rfl rfl rfl ?_
        | refine L_q (Q_fa rfl rfl) rfl rfl rfl ?_
        | refine L_q (Q_pfa rfl) rfl rfl rfl ?_
      first
        | refine L_q (Q_ld 0 rfl rfl rfl rfl) rfl rfl rfl ?_
        | refine L_q (Q_ld 1 rfl rfl rfl rfl) rfl rfl rfl ?_
        | refine L_q (Q_ld 2 rfl rfl rfl rfl) rfl rfl rfl ?_
        | refine L_q (Q_ld 3 rfl rfl rfl rfl) rfl rfl rfl ?_
        | refine L_q (Q_ld 4 rfl rfl rfl rfl) rfl rfl rfl ?_
        | refine L_q (Q_ld 5 rfl rfl rfl rfl) rfl rfl rfl ?_
        | refine L_q (Q_ld 6 rfl rfl rfl rfl) rfl rfl rfl ?_
        | refine L_q (Q_ld 7 rfl rfl rfl rfl) rfl rfl rfl ?_
        | refine L_q (Q_ld 8 rfl rfl rfl rfl) rfl rfl rfl ?_
        | refine L_q (Q_ld 9 rfl rfl rfl rfl) rfl rfl rfl ?_
      refine L_q (Q_move rfl) rfl rfl rfl ?_
      refine L_q (Q_ixAt 3 k rfl rfl rfl rfl hlt rfl) rfl rfl rfl ?_
      refine L_q (Q_pfa rfl) rfl rfl rfl ?_
      refine L_q (Q_ldEAt 3 k 0 (v := .int .i64 l[k].1) rfl rfl rfl rfl hlt (by decide) rfl) rfl rfl rfl ?_
      refine L_q (Q_move rfl) rfl rfl rfl ?_
      refine L_q ((Q_eql rfl rfl).as (v' := .bool true) (congrArg Value.bool (decide_eq_true he))) rfl rfl rfl ?_
      refine JL_nil ?_
      repeat first
        | refine J_seq ?_
        | refine seqQ_normal ?_
        | refine J_condT rfl ?_
        | refine J_condF rfl ?_
        | refine J_block ?_
        | refine blockQ_normal ?_
        | refine J_exit ?_
        | refine seqQ_exit ?_
        | refine blockQ_hit ?_
        | refine blockQ_miss rfl ?_
        | refine J_skip ?_
        | refine J_ret ?_
        | refine seqQ_ret ?_
        | refine blockQ_ret ?_
        | refine loopQ_exit ?_
        | refine loopQ_ret ?_
        | refine J_label ?_
        | refine J_scope ?_
        | refine scopeQ_normal ?_
        | refine scopeQ_exit ?_
        | refine scopeQ_ret ?_
      repeat first
        | refine J_seq ?_
        | refine seqQ_normal ?_
        | refine J_condT rfl ?_
        | refine J_condF rfl ?_
        | refine J_block ?_
        | refine blockQ_normal ?_
        | refine J_exit ?_
        | refine seqQ_exit ?_
        | refine blockQ_hit ?_
        | refine blockQ_miss rfl ?_
        | refine J_skip ?_
        | refine J_ret ?_
        | refine seqQ_ret ?_
        | refine blockQ_ret ?_
        | refine loopQ_exit ?_
        | refine loopQ_ret ?_
        | refine J_label ?_
        | refine J_scope ?_
        | refine scopeQ_normal ?_
        | refine scopeQ_exit ?_
        | refine scopeQ_ret ?_
      refine J_region ?_
      first
        | refine L_q (Q_ldA 0 rfl rfl rfl) rfl rfl rfl ?_
        | refine L_q (Q_ldA 1 rfl rfl rfl) rfl rfl rfl ?_
        | refine L_q (Q_ldA 2 rfl rfl rfl) rfl rfl rfl ?_
        | refine L_q (Q_ldA 3 rfl rfl rfl) rfl rfl rfl ?_
        | refine L_q (Q_ldA 4 rfl rfl rfl) rfl rfl rfl ?_
        | refine L_q (Q_ldA 5 rfl rfl rfl) rfl rfl rfl ?_
        | refine L_q (Q_ldA 6 rfl rfl rfl) rfl rfl rfl ?_
        | refine L_q (Q_ldA 7 rfl rfl rfl) rfl rfl rfl ?_
        | refine L_q (Q_ldA 8 rfl rfl rfl) rfl rfl rfl ?_
        | refine L_q (Q_ldA 9 rfl rfl rfl) rfl rfl rfl ?_
      first
        | refine L_s rfl rfl (O_stW 0 rfl rfl rfl rfl ?_)
        | refine L_s rfl rfl (O_stW 1 rfl rfl rfl rfl ?_)
        | refine L_s rfl rfl (O_stW 2 rfl rfl rfl rfl ?_)
        | refine L_s rfl rfl (O_stW 3 rfl rfl rfl rfl ?_)
        | refine L_s rfl rfl (O_stW 4 rfl rfl rfl rfl ?_)
        | refine L_s rfl rfl (O_stW 5 rfl rfl rfl rfl ?_)
        | refine L_s rfl rfl (O_stW 6 rfl rfl rfl rfl ?_)
        | refine L_s rfl rfl (O_stW 7 rfl rfl rfl rfl ?_)
        | refine L_s rfl rfl (O_stW 8 rfl rfl rfl rfl ?_)
        | refine L_s rfl rfl (O_stW 9 rfl rfl rfl rfl ?_)
      refine JL.norm ?_
      refine L_q (Q_assign rfl) rfl rfl rfl ?_
      refine JL_nil ?_
      repeat first
        | refine J_seq ?_
        | refine seqQ_normal ?_
        | refine J_condT rfl ?_
        | refine J_condF rfl ?_
        | refine J_block ?_
        | refine blockQ_normal ?_
        | refine J_exit ?_
        | refine seqQ_exit ?_
        | refine blockQ_hit ?_
        | refine blockQ_miss rfl ?_
        | refine J_skip ?_
        | refine J_ret ?_
        | refine seqQ_ret ?_
        | refine blockQ_ret ?_
        | refine loopQ_exit ?_
        | refine loopQ_ret ?_
        | refine J_label ?_
        | refine J_scope ?_
        | refine scopeQ_normal ?_
        | refine scopeQ_exit ?_
        | refine scopeQ_ret ?_
      exact retQ_ret _ [slc tO true X l] (.cons (RV_cell 1 rfl rfl rfl rfl) (.cons (RV_tmp rfl) .nil)) ⟨X, rfl, rfl⟩ (Ent.re [3, 4] rfl)
    rw [if_neg he] at hgx
    repeat first
      | refine J_seq ?_
      | refine seqQ_normal ?_
      | refine J_condT rfl ?_
      | refine J_condF rfl ?_
      | refine J_block ?_
      | refine blockQ_normal ?_
      | refine J_exit ?_
      | refine seqQ_exit ?_
      | refine blockQ_hit ?_
      | refine blockQ_miss rfl ?_
      | refine J_skip ?_
      | refine J_ret ?_
      | refine seqQ_ret ?_
      | refine blockQ_ret ?_
      | refine loopQ_exit ?_
      | refine loopQ_ret ?_
      | refine J_label ?_
      | refine J_scope ?_
      | refine scopeQ_normal ?_
      | refine scopeQ_exit ?_
      | refine scopeQ_ret ?_
    refine J_region ?_
    first
      | refine L_q (Q_fa0 rfl) rfl rfl rfl ?_
      | refine L_q (Q_fa rfl rfl) rfl rfl rfl ?_
      | refine L_q (Q_pfa rfl) rfl rfl rfl ?_
    first
      | refine L_q (Q_ld 0 rfl rfl rfl rfl) rfl rfl rfl ?_
      | refine L_q (Q_ld 1 rfl rfl rfl rfl) rfl rfl rfl ?_
      | refine L_q (Q_ld 2 rfl rfl rfl rfl) rfl rfl rfl ?_
      | refine L_q (Q_ld 3 rfl rfl rfl rfl) rfl rfl rfl ?_
      | refine L_q (Q_ld 4 rfl rfl rfl rfl) rfl rfl rfl ?_
      | refine L_q (Q_ld 5 rfl rfl rfl rfl) rfl rfl rfl ?_
      | refine L_q (Q_ld 6 rfl rfl rfl rfl) rfl rfl rfl ?_
      | refine L_q (Q_ld 7 rfl rfl rfl rfl) rfl rfl rfl ?_
      | refine L_q (Q_ld 8 rfl rfl rfl rfl) rfl rfl rfl ?_
      | refine L_q (Q_ld 9 rfl rfl rfl rfl) rfl rfl rfl ?_
    refine L_q (Q_move rfl) rfl rfl rfl ?_
    refine L_q (Q_ixAt 3 k rfl rfl rfl rfl hlt rfl) rfl rfl rfl ?_
    refine L_q (Q_pfa rfl) rfl rfl rfl ?_
    refine L_q (Q_ldEAt 3 k 0 (v := .int .i64 l[k].1) rfl rfl rfl rfl hlt (by decide) rfl) rfl rfl rfl ?_
    refine L_q (Q_move rfl) rfl rfl rfl ?_
    refine L_q ((Q_eql rfl rfl).as (v' := .bool false) (congrArg Value.bool (decide_eq_false he))) rfl rfl rfl ?_
    refine JL_nil ?_
    repeat first
      | refine J_seq ?_
      | refine seqQ_normal ?_
      | refine J_condT rfl ?_
      | refine J_condF rfl ?_
      | refine J_block ?_
      | refine blockQ_normal ?_
      | refine J_exit ?_
      | refine seqQ_exit ?_
      | refine blockQ_hit ?_
      | refine blockQ_miss rfl ?_
      | refine J_skip ?_
      | refine J_ret ?_
      | refine seqQ_ret ?_
      | refine blockQ_ret ?_
      | refine loopQ_exit ?_
      | refine loopQ_ret ?_
      | refine J_label ?_
      | refine J_scope ?_
      | refine scopeQ_normal ?_
      | refine scopeQ_exit ?_
      | refine scopeQ_ret ?_
    cases hp : plc l k s with
    | true =>
      have ho := outT_a l k s (now + 4, 8) hlt hp
      have hps : plc l (k + 1) s = true := by rw [plc_succ l k s hlt, hp]; rfl
      repeat first
        | refine J_seq ?_
        | refine seqQ_normal ?_
        | refine J_condT rfl ?_
        | refine J_condF rfl ?_
        | refine J_block ?_
        | refine blockQ_normal ?_
        | refine J_exit ?_
        | refine seqQ_exit ?_
        | refine blockQ_hit ?_
        | refine blockQ_miss rfl ?_
        | refine J_skip ?_
        | refine J_ret ?_
        | refine seqQ_ret ?_
        | refine blockQ_ret ?_
        | refine loopQ_exit ?_
        | refine loopQ_ret ?_
        | refine J_label ?_
        | refine J_scope ?_
        | refine scopeQ_normal ?_
        | refine scopeQ_exit ?_
        | refine scopeQ_ret ?_
      refine J_region ?_
      refine L_q (Q_move rfl) rfl rfl rfl ?_
      first
        | refine L_q (Q_notD rfl) rfl rfl rfl ?_
        | refine L_q (Q_not rfl) rfl rfl rfl ?_
      refine L_q (Q_move rfl) rfl rfl rfl ?_
      refine L_n rfl rfl rfl ?_
      refine L_n rfl rfl rfl ?_
      refine L_n rfl rfl rfl ?_
      refine L_n rfl rfl rfl ?_
      refine L_n rfl rfl rfl ?_
      refine L_n rfl rfl rfl ?_
      refine L_n rfl rfl rfl ?_
      refine L_n rfl rfl rfl ?_
      first
        | refine L_q (Q_pickT rfl rfl) rfl rfl rfl ?_
        | refine L_q (Q_pickF rfl rfl) rfl rfl rfl ?_
        | refine L_q (Q_pickB rfl rfl rfl) rfl rfl rfl ?_
      refine JL_nil ?_
      repeat first
        | refine J_seq ?_
        | refine seqQ_normal ?_
        | refine J_condT rfl ?_
        | refine J_condF rfl ?_
        | refine J_block ?_
        | refine blockQ_normal ?_
        | refine J_exit ?_
        | refine seqQ_exit ?_
        | refine blockQ_hit ?_
        | refine blockQ_miss rfl ?_
        | refine J_skip ?_
        | refine J_ret ?_
        | refine seqQ_ret ?_
        | refine blockQ_ret ?_
        | refine loopQ_exit ?_
        | refine loopQ_ret ?_
        | refine J_label ?_
        | refine J_scope ?_
        | refine scopeQ_normal ?_
        | refine scopeQ_exit ?_
        | refine scopeQ_ret ?_
      repeat first
        | refine J_seq ?_
        | refine seqQ_normal ?_
        | refine J_condT rfl ?_
        | refine J_condF rfl ?_
        | refine J_block ?_
        | refine blockQ_normal ?_
        | refine J_exit ?_
        | refine seqQ_exit ?_
        | refine blockQ_hit ?_
        | refine blockQ_miss rfl ?_
        | refine J_skip ?_
        | refine J_ret ?_
        | refine seqQ_ret ?_
        | refine blockQ_ret ?_
        | refine loopQ_exit ?_
        | refine loopQ_ret ?_
        | refine J_label ?_
        | refine J_scope ?_
        | refine scopeQ_normal ?_
        | refine scopeQ_exit ?_
        | refine scopeQ_ret ?_
      refine J_region ?_
      refine L_q (Q_move rfl) rfl rfl rfl ?_
      first
        | refine L_q (Q_fa0 rfl) rfl rfl rfl ?_
        | refine L_q (Q_fa rfl rfl) rfl rfl rfl ?_
        | refine L_q (Q_pfa rfl) rfl rfl rfl ?_
      first
        | refine L_q (Q_ld 0 rfl rfl rfl rfl) rfl rfl rfl ?_
        | refine L_q (Q_ld 1 rfl rfl rfl rfl) rfl rfl rfl ?_
        | refine L_q (Q_ld 2 rfl rfl rfl rfl) rfl rfl rfl ?_
        | refine L_q (Q_ld 3 rfl rfl rfl rfl) rfl rfl rfl ?_
        | refine L_q (Q_ld 4 rfl rfl rfl rfl) rfl rfl rfl ?_
        | refine L_q (Q_ld 5 rfl rfl rfl rfl) rfl rfl rfl ?_
        | refine L_q (Q_ld 6 rfl rfl rfl rfl) rfl rfl rfl ?_
        | refine L_q (Q_ld 7 rfl rfl rfl rfl) rfl rfl rfl ?_
        | refine L_q (Q_ld 8 rfl rfl rfl rfl) rfl rfl rfl ?_
        | refine L_q (Q_ld 9 rfl rfl rfl rfl) rfl rfl rfl ?_
      refine L_q (Q_move rfl) rfl rfl rfl ?_
      refine L_q (Q_ixAt 3 k rfl rfl rfl rfl hlt rfl) rfl rfl rfl ?_
      refine L_q (Q_ldEAAt 3 k 0 (vs := [.int .i64 l[k].1, .int .i64 l[k].2.1, .int .i64 l[k].2.2]) rfl rfl rfl rfl hlt (by decide) rfl) rfl rfl rfl ?_
      refine L_o rfl rfl rfl (O_litP (τ := tO) (m := 1) (sz := 3) [l[k]] rfl rfl rfl rfl rfl rfl (by decide) (fun S1 => ?_))
      refine JL.norm ?_
      refine L_o rfl rfl rfl (O_app (τ := tO) 1 rfl (fun w h => h.rd 0 rfl) rfl rfl rfl rfl (by simp only [List.length_singleton]; omega) (by decide) (fun S2 => ?_))
      refine JL.norm ?_
      refine L_q (Q_assign rfl) rfl rfl rfl ?_
      refine JL_nil ?_
      repeat first
        | refine J_seq ?_
        | refine seqQ_normal ?_
        | refine J_condT rfl ?_
        | refine J_condF rfl ?_
        | refine J_block ?_
        | refine blockQ_normal ?_
        | refine J_exit ?_
        | refine seqQ_exit ?_
        | refine blockQ_hit ?_
        | refine blockQ_miss rfl ?_
        | refine J_skip ?_
        | refine J_ret ?_
        | refine seqQ_ret ?_
        | refine blockQ_ret ?_
        | refine loopQ_exit ?_
        | refine loopQ_ret ?_
        | refine J_label ?_
        | refine J_scope ?_
        | refine scopeQ_normal ?_
        | refine scopeQ_exit ?_
        | refine scopeQ_ret ?_
      repeat first
        | refine J_seq ?_
        | refine seqQ_normal ?_
        | refine J_condT rfl ?_
        | refine J_condF rfl ?_
        | refine J_block ?_
        | refine blockQ_normal ?_
        | refine J_exit ?_
        | refine seqQ_exit ?_
        | refine blockQ_hit ?_
        | refine blockQ_miss rfl ?_
        | refine J_skip ?_
        | refine J_ret ?_
        | refine seqQ_ret ?_
        | refine blockQ_ret ?_
        | refine loopQ_exit ?_
        | refine loopQ_ret ?_
        | refine J_label ?_
        | refine J_scope ?_
        | refine scopeQ_normal ?_
        | refine scopeQ_exit ?_
        | refine scopeQ_ret ?_
      refine J_region ?_
      refine L_q (Q_move rfl) rfl rfl rfl ?_
      refine L_q (Q_add rfl rfl (by first | exact IntWalk.i64_in _ (by omega) | exact IntWalk.u8_in _ (by omega) | exact IntWalk.u32_in _ (by omega) | exact IntWalk.u64_in _ (by omega) | rfl)) rfl rfl rfl ?_
      refine L_q (Q_assign rfl) rfl rfl rfl ?_
      refine JL_nil ?_
      repeat first
        | refine J_seq ?_
        | refine seqQ_normal ?_
        | refine J_condT rfl ?_
        | refine J_condF rfl ?_
        | refine J_block ?_
        | refine blockQ_normal ?_
        | refine J_exit ?_
        | refine seqQ_exit ?_
        | refine blockQ_hit ?_
        | refine blockQ_miss rfl ?_
        | refine J_skip ?_
        | refine J_ret ?_
        | refine seqQ_ret ?_
        | refine blockQ_ret ?_
        | refine loopQ_exit ?_
        | refine loopQ_ret ?_
        | refine J_label ?_
        | refine J_scope ?_
        | refine scopeQ_normal ?_
        | refine scopeQ_exit ?_
        | refine scopeQ_ret ?_
      exact loopQ_normal (k + 1, S2) ⟨hlt, hgx⟩ (by simp only; omega) ⟨rfl, rfl, rfl, rfl, rfl, by rw [hps]; rfl, rfl, trivial⟩ (by simp only; rw [ho]; exact Ent.re [1, 2, 3, 4, 5] rfl)
    | false =>
      by_cases hx : s < l[k].1
      · have ho := outT_b l k s (now + 4, 8) hlt hp hx
        have hps : plc l (k + 1) s = true := by rw [plc_succ l k s hlt, hp, decide_eq_true hx]; rfl
        repeat first
          | refine J_seq ?_
          | refine seqQ_normal ?_
          | refine J_condT rfl ?_
          | refine J_condF rfl ?_
          | refine J_block ?_
          | refine blockQ_normal ?_
          | refine J_exit ?_
          | refine seqQ_exit ?_
          | refine blockQ_hit ?_
          | refine blockQ_miss rfl ?_
          | refine J_skip ?_
          | refine J_ret ?_
          | refine seqQ_ret ?_
          | refine blockQ_ret ?_
          | refine loopQ_exit ?_
          | refine loopQ_ret ?_
          | refine J_label ?_
          | refine J_scope ?_
          | refine scopeQ_normal ?_
          | refine scopeQ_exit ?_
          | refine scopeQ_ret ?_
        refine J_region ?_
        refine L_q (Q_move rfl) rfl rfl rfl ?_
        first
          | refine L_q (Q_notD rfl) rfl rfl rfl ?_
          | refine L_q (Q_not rfl) rfl rfl rfl ?_
        refine L_q (Q_move rfl) rfl rfl rfl ?_
        first
          | refine L_q (Q_fa0 rfl) rfl rfl rfl ?_
          | refine L_q (Q_fa rfl rfl) rfl rfl rfl ?_
          | refine L_q (Q_pfa rfl) rfl rfl rfl ?_
        first
          | refine L_q (Q_ld 0 rfl rfl rfl rfl) rfl rfl rfl ?_
          | refine L_q (Q_ld 1 rfl rfl rfl rfl) rfl rfl rfl ?_
          | refine L_q (Q_ld 2 rfl rfl rfl rfl) rfl rfl rfl ?_
          | refine L_q (Q_ld 3 rfl rfl rfl rfl) rfl rfl rfl ?_
          | refine L_q (Q_ld 4 rfl rfl rfl rfl) rfl rfl rfl ?_
          | refine L_q (Q_ld 5 rfl rfl rfl rfl) rfl rfl rfl ?_
          | refine L_q (Q_ld 6 rfl rfl rfl rfl) rfl rfl rfl ?_
          | refine L_q (Q_ld 7 rfl rfl rfl rfl) rfl rfl rfl ?_
          | refine L_q (Q_ld 8 rfl rfl rfl rfl) rfl rfl rfl ?_
          | refine L_q (Q_ld 9 rfl rfl rfl rfl) rfl rfl rfl ?_
        refine L_q (Q_move rfl) rfl rfl rfl ?_
        refine L_q (Q_ixAt 3 k rfl rfl rfl rfl hlt rfl) rfl rfl rfl ?_
        refine L_q (Q_pfa rfl) rfl rfl rfl ?_
        refine L_q (Q_ldEAt 3 k 0 (v := .int .i64 l[k].1) rfl rfl rfl rfl hlt (by decide) rfl) rfl rfl rfl ?_
        refine L_q (Q_move rfl) rfl rfl rfl ?_
        refine L_q ((Q_gtr rfl rfl).as (v' := .bool true) (congrArg Value.bool (decide_eq_true hx))) rfl rfl rfl ?_
        first
          | refine L_q (Q_pickT rfl rfl) rfl rfl rfl ?_
          | refine L_q (Q_pickF rfl rfl) rfl rfl rfl ?_
          | refine L_q (Q_pickB rfl rfl rfl) rfl rfl rfl ?_
        refine JL_nil ?_
        repeat first
          | refine J_seq ?_
          | refine seqQ_normal ?_
          | refine J_condT rfl ?_
          | refine J_condF rfl ?_
          | refine J_block ?_
          | refine blockQ_normal ?_
          | refine J_exit ?_
          | refine seqQ_exit ?_
          | refine blockQ_hit ?_
          | refine blockQ_miss rfl ?_
          | refine J_skip ?_
          | refine J_ret ?_
          | refine seqQ_ret ?_
          | refine blockQ_ret ?_
          | refine loopQ_exit ?_
          | refine loopQ_ret ?_
          | refine J_label ?_
          | refine J_scope ?_
          | refine scopeQ_normal ?_
          | refine scopeQ_exit ?_
          | refine scopeQ_ret ?_
        repeat first
          | refine J_seq ?_
          | refine seqQ_normal ?_
          | refine J_condT rfl ?_
          | refine J_condF rfl ?_
          | refine J_block ?_
          | refine blockQ_normal ?_
          | refine J_exit ?_
          | refine seqQ_exit ?_
          | refine blockQ_hit ?_
          | refine blockQ_miss rfl ?_
          | refine J_skip ?_
          | refine J_ret ?_
          | refine seqQ_ret ?_
          | refine blockQ_ret ?_
          | refine loopQ_exit ?_
          | refine loopQ_ret ?_
          | refine J_label ?_
          | refine J_scope ?_
          | refine scopeQ_normal ?_
          | refine scopeQ_exit ?_
          | refine scopeQ_ret ?_
        refine J_region ?_
        refine L_q (Q_move rfl) rfl rfl rfl ?_
        refine L_q (Q_move rfl) rfl rfl rfl ?_
        refine L_q (Q_move rfl) rfl rfl rfl ?_
        refine L_q (Q_add rfl rfl (by first | exact IntWalk.i64_in _ (by omega) | exact IntWalk.u8_in _ (by omega) | exact IntWalk.u32_in _ (by omega) | exact IntWalk.u64_in _ (by omega) | rfl)) rfl rfl rfl ?_
        refine L_q (Q_build rfl) rfl rfl rfl ?_
        refine L_o rfl rfl rfl (O_litP (τ := tO) (m := 1) (sz := 3) [(s, (now + 4, 8))] rfl rfl rfl rfl rfl rfl (by decide) (fun S3 => ?_))
        refine JL.norm ?_
        refine L_o rfl rfl rfl (O_app (τ := tO) 1 rfl (fun w h => h.rd 0 rfl) rfl rfl rfl rfl (by simp only [List.length_singleton]; omega) (by decide) (fun S4 => ?_))
        refine JL.norm ?_
        refine L_q (Q_assign rfl) rfl rfl rfl ?_
        refine JL_nil ?_
        repeat first
          | refine J_seq ?_
          | refine seqQ_normal ?_
          | refine J_condT rfl ?_
          | refine J_condF rfl ?_
          | refine J_block ?_
          | refine blockQ_normal ?_
          | refine J_exit ?_
          | refine seqQ_exit ?_
          | refine blockQ_hit ?_
          | refine blockQ_miss rfl ?_
          | refine J_skip ?_
          | refine J_ret ?_
          | refine seqQ_ret ?_
          | refine blockQ_ret ?_
          | refine loopQ_exit ?_
          | refine loopQ_ret ?_
          | refine J_label ?_
          | refine J_scope ?_
          | refine scopeQ_normal ?_
          | refine scopeQ_exit ?_
          | refine scopeQ_ret ?_
        repeat first
          | refine J_seq ?_
          | refine seqQ_normal ?_
          | refine J_condT rfl ?_
          | refine J_condF rfl ?_
          | refine J_block ?_
          | refine blockQ_normal ?_
          | refine J_exit ?_
          | refine seqQ_exit ?_
          | refine blockQ_hit ?_
          | refine blockQ_miss rfl ?_
          | refine J_skip ?_
          | refine J_ret ?_
          | refine seqQ_ret ?_
          | refine blockQ_ret ?_
          | refine loopQ_exit ?_
          | refine loopQ_ret ?_
          | refine J_label ?_
          | refine J_scope ?_
          | refine scopeQ_normal ?_
          | refine scopeQ_exit ?_
          | refine scopeQ_ret ?_
        refine J_region ?_
        refine L_q (Q_assign rfl) rfl rfl rfl ?_
        refine JL_nil ?_
        repeat first
          | refine J_seq ?_
          | refine seqQ_normal ?_
          | refine J_condT rfl ?_
          | refine J_condF rfl ?_
          | refine J_block ?_
          | refine blockQ_normal ?_
          | refine J_exit ?_
          | refine seqQ_exit ?_
          | refine blockQ_hit ?_
          | refine blockQ_miss rfl ?_
          | refine J_skip ?_
          | refine J_ret ?_
          | refine seqQ_ret ?_
          | refine blockQ_ret ?_
          | refine loopQ_exit ?_
          | refine loopQ_ret ?_
          | refine J_label ?_
          | refine J_scope ?_
          | refine scopeQ_normal ?_
          | refine scopeQ_exit ?_
          | refine scopeQ_ret ?_
        repeat first
          | refine J_seq ?_
          | refine seqQ_normal ?_
          | refine J_condT rfl ?_
          | refine J_condF rfl ?_
          | refine J_block ?_
          | refine blockQ_normal ?_
          | refine J_exit ?_
          | refine seqQ_exit ?_
          | refine blockQ_hit ?_
          | refine blockQ_miss rfl ?_
          | refine J_skip ?_
          | refine J_ret ?_
          | refine seqQ_ret ?_
          | refine blockQ_ret ?_
          | refine loopQ_exit ?_
          | refine loopQ_ret ?_
          | refine J_label ?_
          | refine J_scope ?_
          | refine scopeQ_normal ?_
          | refine scopeQ_exit ?_
          | refine scopeQ_ret ?_
        refine J_region ?_
        refine L_q (Q_move rfl) rfl rfl rfl ?_
        first
          | refine L_q (Q_fa0 rfl) rfl rfl rfl ?_
          | refine L_q (Q_fa rfl rfl) rfl rfl rfl ?_
          | refine L_q (Q_pfa rfl) rfl rfl rfl ?_
        first
          | refine L_q (Q_ld 0 rfl rfl rfl rfl) rfl rfl rfl ?_
          | refine L_q (Q_ld 1 rfl rfl rfl rfl) rfl rfl rfl ?_
          | refine L_q (Q_ld 2 rfl rfl rfl rfl) rfl rfl rfl ?_
          | refine L_q (Q_ld 3 rfl rfl rfl rfl) rfl rfl rfl ?_
          | refine L_q (Q_ld 4 rfl rfl rfl rfl) rfl rfl rfl ?_
          | refine L_q (Q_ld 5 rfl rfl rfl rfl) rfl rfl rfl ?_
          | refine L_q (Q_ld 6 rfl rfl rfl rfl) rfl rfl rfl ?_
          | refine L_q (Q_ld 7 rfl rfl rfl rfl) rfl rfl rfl ?_
          | refine L_q (Q_ld 8 rfl rfl rfl rfl) rfl rfl rfl ?_
          | refine L_q (Q_ld 9 rfl rfl rfl rfl) rfl rfl rfl ?_
        refine L_q (Q_move rfl) rfl rfl rfl ?_
        refine L_q (Q_ixAt 4 k rfl rfl rfl rfl hlt rfl) rfl rfl rfl ?_
        refine L_q (Q_ldEAAt 4 k 0 (vs := [.int .i64 l[k].1, .int .i64 l[k].2.1, .int .i64 l[k].2.2]) rfl rfl rfl rfl hlt (by decide) rfl) rfl rfl rfl ?_
        refine L_o rfl rfl rfl (O_litP (τ := tO) (m := 1) (sz := 3) [l[k]] rfl rfl rfl rfl rfl rfl (by decide) (fun S1 => ?_))
        refine JL.norm ?_
        refine L_o rfl rfl rfl (O_app (τ := tO) 2 rfl (fun w h => h.rd 0 rfl) rfl rfl rfl rfl (by simp only [List.length_singleton, List.length_append]; omega) (by decide) (fun S2 => ?_))
        refine JL.norm ?_
        refine L_q (Q_assign rfl) rfl rfl rfl ?_
        refine JL_nil ?_
        repeat first
          | refine J_seq ?_
          | refine seqQ_normal ?_
          | refine J_condT rfl ?_
          | refine J_condF rfl ?_
          | refine J_block ?_
          | refine blockQ_normal ?_
          | refine J_exit ?_
          | refine seqQ_exit ?_
          | refine blockQ_hit ?_
          | refine blockQ_miss rfl ?_
          | refine J_skip ?_
          | refine J_ret ?_
          | refine seqQ_ret ?_
          | refine blockQ_ret ?_
          | refine loopQ_exit ?_
          | refine loopQ_ret ?_
          | refine J_label ?_
          | refine J_scope ?_
          | refine scopeQ_normal ?_
          | refine scopeQ_exit ?_
          | refine scopeQ_ret ?_
        repeat first
          | refine J_seq ?_
          | refine seqQ_normal ?_
          | refine J_condT rfl ?_
          | refine J_condF rfl ?_
          | refine J_block ?_
          | refine blockQ_normal ?_
          | refine J_exit ?_
          | refine seqQ_exit ?_
          | refine blockQ_hit ?_
          | refine blockQ_miss rfl ?_
          | refine J_skip ?_
          | refine J_ret ?_
          | refine seqQ_ret ?_
          | refine blockQ_ret ?_
          | refine loopQ_exit ?_
          | refine loopQ_ret ?_
          | refine J_label ?_
          | refine J_scope ?_
          | refine scopeQ_normal ?_
          | refine scopeQ_exit ?_
          | refine scopeQ_ret ?_
        refine J_region ?_
        refine L_q (Q_move rfl) rfl rfl rfl ?_
        refine L_q (Q_add rfl rfl (by first | exact IntWalk.i64_in _ (by omega) | exact IntWalk.u8_in _ (by omega) | exact IntWalk.u32_in _ (by omega) | exact IntWalk.u64_in _ (by omega) | rfl)) rfl rfl rfl ?_
        refine L_q (Q_assign rfl) rfl rfl rfl ?_
        refine JL_nil ?_
        repeat first
          | refine J_seq ?_
          | refine seqQ_normal ?_
          | refine J_condT rfl ?_
          | refine J_condF rfl ?_
          | refine J_block ?_
          | refine blockQ_normal ?_
          | refine J_exit ?_
          | refine seqQ_exit ?_
          | refine blockQ_hit ?_
          | refine blockQ_miss rfl ?_
          | refine J_skip ?_
          | refine J_ret ?_
          | refine seqQ_ret ?_
          | refine blockQ_ret ?_
          | refine loopQ_exit ?_
          | refine loopQ_ret ?_
          | refine J_label ?_
          | refine J_scope ?_
          | refine scopeQ_normal ?_
          | refine scopeQ_exit ?_
          | refine scopeQ_ret ?_
        exact loopQ_normal (k + 1, S2) ⟨hlt, hgx⟩ (by simp only; omega) ⟨rfl, rfl, rfl, rfl, rfl, by rw [hps]; rfl, rfl, trivial⟩ (by simp only; rw [ho]; exact Ent.re [2, 3, 4, 5, 6] rfl)
      · have ho := outT_c l k s (now + 4, 8) hlt hp hx
        have hps : plc l (k + 1) s = false := by rw [plc_succ l k s hlt, hp, decide_eq_false hx]; rfl
        repeat first
          | refine J_seq ?_
          | refine seqQ_normal ?_
          | refine J_condT rfl ?_
          | refine J_condF rfl ?_
          | refine J_block ?_
          | refine blockQ_normal ?_
          | refine J_exit ?_
          | refine seqQ_exit ?_
          | refine blockQ_hit ?_
          | refine blockQ_miss rfl ?_
          | refine J_skip ?_
          | refine J_ret ?_
          | refine seqQ_ret ?_
          | refine blockQ_ret ?_
          | refine loopQ_exit ?_
          | refine loopQ_ret ?_
          | refine J_label ?_
          | refine J_scope ?_
          | refine scopeQ_normal ?_
          | refine scopeQ_exit ?_
          | refine scopeQ_ret ?_
        refine J_region ?_
        refine L_q (Q_move rfl) rfl rfl rfl ?_
        first
          | refine L_q (Q_notD rfl) rfl rfl rfl ?_
          | refine L_q (Q_not rfl) rfl rfl rfl ?_
        refine L_q (Q_move rfl) rfl rfl rfl ?_
        first
          | refine L_q (Q_fa0 rfl) rfl rfl rfl ?_
          | refine L_q (Q_fa rfl rfl) rfl rfl rfl ?_
          | refine L_q (Q_pfa rfl) rfl rfl rfl ?_
        first
          | refine L_q (Q_ld 0 rfl rfl rfl rfl) rfl rfl rfl ?_
          | refine L_q (Q_ld 1 rfl rfl rfl rfl) rfl rfl rfl ?_
          | refine L_q (Q_ld 2 rfl rfl rfl rfl) rfl rfl rfl ?_
          | refine L_q (Q_ld 3 rfl rfl rfl rfl) rfl rfl rfl ?_
          | refine L_q (Q_ld 4 rfl rfl rfl rfl) rfl rfl rfl ?_
          | refine L_q (Q_ld 5 rfl rfl rfl rfl) rfl rfl rfl ?_
          | refine L_q (Q_ld 6 rfl rfl rfl rfl) rfl rfl rfl ?_
          | refine L_q (Q_ld 7 rfl rfl rfl rfl) rfl rfl rfl ?_
          | refine L_q (Q_ld 8 rfl rfl rfl rfl) rfl rfl rfl ?_
          | refine L_q (Q_ld 9 rfl rfl rfl rfl) rfl rfl rfl ?_
        refine L_q (Q_move rfl) rfl rfl rfl ?_
        refine L_q (Q_ixAt 3 k rfl rfl rfl rfl hlt rfl) rfl rfl rfl ?_
        refine L_q (Q_pfa rfl) rfl rfl rfl ?_
        refine L_q (Q_ldEAt 3 k 0 (v := .int .i64 l[k].1) rfl rfl rfl rfl hlt (by decide) rfl) rfl rfl rfl ?_
        refine L_q (Q_move rfl) rfl rfl rfl ?_
        refine L_q ((Q_gtr rfl rfl).as (v' := .bool false) (congrArg Value.bool (decide_eq_false hx))) rfl rfl rfl ?_
        first
          | refine L_q (Q_pickT rfl rfl) rfl rfl rfl ?_
          | refine L_q (Q_pickF rfl rfl) rfl rfl rfl ?_
          | refine L_q (Q_pickB rfl rfl rfl) rfl rfl rfl ?_
        refine JL_nil ?_
        repeat first
          | refine J_seq ?_
          | refine seqQ_normal ?_
          | refine J_condT rfl ?_
          | refine J_condF rfl ?_
          | refine J_block ?_
          | refine blockQ_normal ?_
          | refine J_exit ?_
          | refine seqQ_exit ?_
          | refine blockQ_hit ?_
          | refine blockQ_miss rfl ?_
          | refine J_skip ?_
          | refine J_ret ?_
          | refine seqQ_ret ?_
          | refine blockQ_ret ?_
          | refine loopQ_exit ?_
          | refine loopQ_ret ?_
          | refine J_label ?_
          | refine J_scope ?_
          | refine scopeQ_normal ?_
          | refine scopeQ_exit ?_
          | refine scopeQ_ret ?_
        repeat first
          | refine J_seq ?_
          | refine seqQ_normal ?_
          | refine J_condT rfl ?_
          | refine J_condF rfl ?_
          | refine J_block ?_
          | refine blockQ_normal ?_
          | refine J_exit ?_
          | refine seqQ_exit ?_
          | refine blockQ_hit ?_
          | refine blockQ_miss rfl ?_
          | refine J_skip ?_
          | refine J_ret ?_
          | refine seqQ_ret ?_
          | refine blockQ_ret ?_
          | refine loopQ_exit ?_
          | refine loopQ_ret ?_
          | refine J_label ?_
          | refine J_scope ?_
          | refine scopeQ_normal ?_
          | refine scopeQ_exit ?_
          | refine scopeQ_ret ?_
        refine J_region ?_
        refine L_q (Q_move rfl) rfl rfl rfl ?_
        first
          | refine L_q (Q_fa0 rfl) rfl rfl rfl ?_
          | refine L_q (Q_fa rfl rfl) rfl rfl rfl ?_
          | refine L_q (Q_pfa rfl) rfl rfl rfl ?_
        first
          | refine L_q (Q_ld 0 rfl rfl rfl rfl) rfl rfl rfl ?_
          | refine L_q (Q_ld 1 rfl rfl rfl rfl) rfl rfl rfl ?_
          | refine L_q (Q_ld 2 rfl rfl rfl rfl) rfl rfl rfl ?_
          | refine L_q (Q_ld 3 rfl rfl rfl rfl) rfl rfl rfl ?_
          | refine L_q (Q_ld 4 rfl rfl rfl rfl) rfl rfl rfl ?_
          | refine L_q (Q_ld 5 rfl rfl rfl rfl) rfl rfl rfl ?_
          | refine L_q (Q_ld 6 rfl rfl rfl rfl) rfl rfl rfl ?_
          | refine L_q (Q_ld 7 rfl rfl rfl rfl) rfl rfl rfl ?_
          | refine L_q (Q_ld 8 rfl rfl rfl rfl) rfl rfl rfl ?_
          | refine L_q (Q_ld 9 rfl rfl rfl rfl) rfl rfl rfl ?_
        refine L_q (Q_move rfl) rfl rfl rfl ?_
        refine L_q (Q_ixAt 3 k rfl rfl rfl rfl hlt rfl) rfl rfl rfl ?_
        refine L_q (Q_ldEAAt 3 k 0 (vs := [.int .i64 l[k].1, .int .i64 l[k].2.1, .int .i64 l[k].2.2]) rfl rfl rfl rfl hlt (by decide) rfl) rfl rfl rfl ?_
        refine L_o rfl rfl rfl (O_litP (τ := tO) (m := 1) (sz := 3) [l[k]] rfl rfl rfl rfl rfl rfl (by decide) (fun S1 => ?_))
        refine JL.norm ?_
        refine L_o rfl rfl rfl (O_app (τ := tO) 1 rfl (fun w h => h.rd 0 rfl) rfl rfl rfl rfl (by simp only [List.length_singleton]; omega) (by decide) (fun S2 => ?_))
        refine JL.norm ?_
        refine L_q (Q_assign rfl) rfl rfl rfl ?_
        refine JL_nil ?_
        repeat first
          | refine J_seq ?_
          | refine seqQ_normal ?_
          | refine J_condT rfl ?_
          | refine J_condF rfl ?_
          | refine J_block ?_
          | refine blockQ_normal ?_
          | refine J_exit ?_
          | refine seqQ_exit ?_
          | refine blockQ_hit ?_
          | refine blockQ_miss rfl ?_
          | refine J_skip ?_
          | refine J_ret ?_
          | refine seqQ_ret ?_
          | refine blockQ_ret ?_
          | refine loopQ_exit ?_
          | refine loopQ_ret ?_
          | refine J_label ?_
          | refine J_scope ?_
          | refine scopeQ_normal ?_
          | refine scopeQ_exit ?_
          | refine scopeQ_ret ?_
        repeat first
          | refine J_seq ?_
          | refine seqQ_normal ?_
          | refine J_condT rfl ?_
          | refine J_condF rfl ?_
          | refine J_block ?_
          | refine blockQ_normal ?_
          | refine J_exit ?_
          | refine seqQ_exit ?_
          | refine blockQ_hit ?_
          | refine blockQ_miss rfl ?_
          | refine J_skip ?_
          | refine J_ret ?_
          | refine seqQ_ret ?_
          | refine blockQ_ret ?_
          | refine loopQ_exit ?_
          | refine loopQ_ret ?_
          | refine J_label ?_
          | refine J_scope ?_
          | refine scopeQ_normal ?_
          | refine scopeQ_exit ?_
          | refine scopeQ_ret ?_
        refine J_region ?_
        refine L_q (Q_move rfl) rfl rfl rfl ?_
        refine L_q (Q_add rfl rfl (by first | exact IntWalk.i64_in _ (by omega) | exact IntWalk.u8_in _ (by omega) | exact IntWalk.u32_in _ (by omega) | exact IntWalk.u64_in _ (by omega) | rfl)) rfl rfl rfl ?_
        refine L_q (Q_assign rfl) rfl rfl rfl ?_
        refine JL_nil ?_
        repeat first
          | refine J_seq ?_
          | refine seqQ_normal ?_
          | refine J_condT rfl ?_
          | refine J_condF rfl ?_
          | refine J_block ?_
          | refine blockQ_normal ?_
          | refine J_exit ?_
          | refine seqQ_exit ?_
          | refine blockQ_hit ?_
          | refine blockQ_miss rfl ?_
          | refine J_skip ?_
          | refine J_ret ?_
          | refine seqQ_ret ?_
          | refine blockQ_ret ?_
          | refine loopQ_exit ?_
          | refine loopQ_ret ?_
          | refine J_label ?_
          | refine J_scope ?_
          | refine scopeQ_normal ?_
          | refine scopeQ_exit ?_
          | refine scopeQ_ret ?_
        exact loopQ_normal (k + 1, S2) ⟨hlt, hgx⟩ (by simp only; omega) ⟨rfl, rfl, rfl, rfl, rfl, by rw [hps]; rfl, rfl, trivial⟩ (by simp only; rw [ho]; exact Ent.re [1, 2, 3, 4, 5] rfl)
  · obtain rfl : k = l.length := by omega
    rw [List.take_length] at hnone
    have hb : sentB most l s now = true := by simp [sentB, hnone, hq, show 0 ≤ s by omega]; omega
    have hL : sentL most l s now = insT l s (now + 4, 8) := by unfold sentL; rw [hb]; rfl
    rw [hb, hL]
    cases hp : plc l l.length s with
    | true =>
      rw [← outT_p l s (now + 4, 8) hp]
      repeat first
        | refine J_seq ?_
        | refine seqQ_normal ?_
        | refine J_condT rfl ?_
        | refine J_condF rfl ?_
        | refine J_block ?_
        | refine blockQ_normal ?_
        | refine J_exit ?_
        | refine seqQ_exit ?_
        | refine blockQ_hit ?_
        | refine blockQ_miss rfl ?_
        | refine J_skip ?_
        | refine J_ret ?_
        | refine seqQ_ret ?_
        | refine blockQ_ret ?_
        | refine loopQ_exit ?_
        | refine loopQ_ret ?_
        | refine J_label ?_
        | refine J_scope ?_
        | refine scopeQ_normal ?_
        | refine scopeQ_exit ?_
        | refine scopeQ_ret ?_
      refine J_region ?_
      refine L_q (Q_move rfl) rfl rfl rfl ?_
      first
        | refine L_q (Q_notD rfl) rfl rfl rfl ?_
        | refine L_q (Q_not rfl) rfl rfl rfl ?_
      refine JL_nil ?_
      repeat first
        | refine J_seq ?_
        | refine seqQ_normal ?_
        | refine J_condT rfl ?_
        | refine J_condF rfl ?_
        | refine J_block ?_
        | refine blockQ_normal ?_
        | refine J_exit ?_
        | refine seqQ_exit ?_
        | refine blockQ_hit ?_
        | refine blockQ_miss rfl ?_
        | refine J_skip ?_
        | refine J_ret ?_
        | refine seqQ_ret ?_
        | refine blockQ_ret ?_
        | refine loopQ_exit ?_
        | refine loopQ_ret ?_
        | refine J_label ?_
        | refine J_scope ?_
        | refine scopeQ_normal ?_
        | refine scopeQ_exit ?_
        | refine scopeQ_ret ?_
      repeat first
        | refine J_seq ?_
        | refine seqQ_normal ?_
        | refine J_condT rfl ?_
        | refine J_condF rfl ?_
        | refine J_block ?_
        | refine blockQ_normal ?_
        | refine J_exit ?_
        | refine seqQ_exit ?_
        | refine blockQ_hit ?_
        | refine blockQ_miss rfl ?_
        | refine J_skip ?_
        | refine J_ret ?_
        | refine seqQ_ret ?_
        | refine blockQ_ret ?_
        | refine loopQ_exit ?_
        | refine loopQ_ret ?_
        | refine J_label ?_
        | refine J_scope ?_
        | refine scopeQ_normal ?_
        | refine scopeQ_exit ?_
        | refine scopeQ_ret ?_
      refine J_region ?_
      refine L_q (Q_move rfl) rfl rfl rfl ?_
      first
        | refine L_q (Q_fa0 rfl) rfl rfl rfl ?_
        | refine L_q (Q_fa rfl rfl) rfl rfl rfl ?_
        | refine L_q (Q_pfa rfl) rfl rfl rfl ?_
      first
        | refine L_s rfl rfl (O_st1 0 rfl rfl rfl rfl rfl ?_)
        | refine L_s rfl rfl (O_st1 1 rfl rfl rfl rfl rfl ?_)
        | refine L_s rfl rfl (O_st1 2 rfl rfl rfl rfl rfl ?_)
        | refine L_s rfl rfl (O_st1 3 rfl rfl rfl rfl rfl ?_)
        | refine L_s rfl rfl (O_st1 4 rfl rfl rfl rfl rfl ?_)
        | refine L_s rfl rfl (O_st1 5 rfl rfl rfl rfl rfl ?_)
        | refine L_s rfl rfl (O_st1 6 rfl rfl rfl rfl rfl ?_)
        | refine L_s rfl rfl (O_st1 7 rfl rfl rfl rfl rfl ?_)
        | refine L_s rfl rfl (O_st1 8 rfl rfl rfl rfl rfl ?_)
        | refine L_s rfl rfl (O_st1 9 rfl rfl rfl rfl rfl ?_)
      refine JL.norm ?_
      refine JL_nil ?_
      repeat first
        | refine J_seq ?_
        | refine seqQ_normal ?_
        | refine J_condT rfl ?_
        | refine J_condF rfl ?_
        | refine J_block ?_
        | refine blockQ_normal ?_
        | refine J_exit ?_
        | refine seqQ_exit ?_
        | refine blockQ_hit ?_
        | refine blockQ_miss rfl ?_
        | refine J_skip ?_
        | refine J_ret ?_
        | refine seqQ_ret ?_
        | refine blockQ_ret ?_
        | refine loopQ_exit ?_
        | refine loopQ_ret ?_
        | refine J_label ?_
        | refine J_scope ?_
        | refine scopeQ_normal ?_
        | refine scopeQ_exit ?_
        | refine scopeQ_ret ?_
      repeat first
        | refine J_seq ?_
        | refine seqQ_normal ?_
        | refine J_condT rfl ?_
        | refine J_condF rfl ?_
        | refine J_block ?_
        | refine blockQ_normal ?_
        | refine J_exit ?_
        | refine seqQ_exit ?_
        | refine blockQ_hit ?_
        | refine blockQ_miss rfl ?_
        | refine J_skip ?_
        | refine J_ret ?_
        | refine seqQ_ret ?_
        | refine blockQ_ret ?_
        | refine loopQ_exit ?_
        | refine loopQ_ret ?_
        | refine J_label ?_
        | refine J_scope ?_
        | refine scopeQ_normal ?_
        | refine scopeQ_exit ?_
        | refine scopeQ_ret ?_
      refine J_region ?_
      first
        | refine L_q (Q_ldA 0 rfl rfl rfl) rfl rfl rfl ?_
        | refine L_q (Q_ldA 1 rfl rfl rfl) rfl rfl rfl ?_
        | refine L_q (Q_ldA 2 rfl rfl rfl) rfl rfl rfl ?_
        | refine L_q (Q_ldA 3 rfl rfl rfl) rfl rfl rfl ?_
        | refine L_q (Q_ldA 4 rfl rfl rfl) rfl rfl rfl ?_
        | refine L_q (Q_ldA 5 rfl rfl rfl) rfl rfl rfl ?_
        | refine L_q (Q_ldA 6 rfl rfl rfl) rfl rfl rfl ?_
        | refine L_q (Q_ldA 7 rfl rfl rfl) rfl rfl rfl ?_
        | refine L_q (Q_ldA 8 rfl rfl rfl) rfl rfl rfl ?_
        | refine L_q (Q_ldA 9 rfl rfl rfl) rfl rfl rfl ?_
      first
        | refine L_s rfl rfl (O_stW 0 rfl rfl rfl rfl ?_)
        | refine L_s rfl rfl (O_stW 1 rfl rfl rfl rfl ?_)
        | refine L_s rfl rfl (O_stW 2 rfl rfl rfl rfl ?_)
        | refine L_s rfl rfl (O_stW 3 rfl rfl rfl rfl ?_)
        | refine L_s rfl rfl (O_stW 4 rfl rfl rfl rfl ?_)
        | refine L_s rfl rfl (O_stW 5 rfl rfl rfl rfl ?_)
        | refine L_s rfl rfl (O_stW 6 rfl rfl rfl rfl ?_)
        | refine L_s rfl rfl (O_stW 7 rfl rfl rfl rfl ?_)
        | refine L_s rfl rfl (O_stW 8 rfl rfl rfl rfl ?_)
        | refine L_s rfl rfl (O_stW 9 rfl rfl rfl rfl ?_)
      refine JL.norm ?_
      refine L_q (Q_assign rfl) rfl rfl rfl ?_
      refine JL_nil ?_
      repeat first
        | refine J_seq ?_
        | refine seqQ_normal ?_
        | refine J_condT rfl ?_
        | refine J_condF rfl ?_
        | refine J_block ?_
        | refine blockQ_normal ?_
        | refine J_exit ?_
        | refine seqQ_exit ?_
        | refine blockQ_hit ?_
        | refine blockQ_miss rfl ?_
        | refine J_skip ?_
        | refine J_ret ?_
        | refine seqQ_ret ?_
        | refine blockQ_ret ?_
        | refine loopQ_exit ?_
        | refine loopQ_ret ?_
        | refine J_label ?_
        | refine J_scope ?_
        | refine scopeQ_normal ?_
        | refine scopeQ_exit ?_
        | refine scopeQ_ret ?_
      exact retQ_ret _ [slc tO true S (outT l l.length s (now + 4, 8))] (.cons (RV_cell 1 rfl rfl rfl rfl) (.cons (RV_tmp rfl) .nil)) ⟨S, rfl, rfl⟩ (Ent.re [0, 4] rfl)
    | false =>
      rw [outT_q l s (now + 4, 8) hp]
      repeat first
        | refine J_seq ?_
        | refine seqQ_normal ?_
        | refine J_condT rfl ?_
        | refine J_condF rfl ?_
        | refine J_block ?_
        | refine blockQ_normal ?_
        | refine J_exit ?_
        | refine seqQ_exit ?_
        | refine blockQ_hit ?_
        | refine blockQ_miss rfl ?_
        | refine J_skip ?_
        | refine J_ret ?_
        | refine seqQ_ret ?_
        | refine blockQ_ret ?_
        | refine loopQ_exit ?_
        | refine loopQ_ret ?_
        | refine J_label ?_
        | refine J_scope ?_
        | refine scopeQ_normal ?_
        | refine scopeQ_exit ?_
        | refine scopeQ_ret ?_
      refine J_region ?_
      refine L_q (Q_move rfl) rfl rfl rfl ?_
      first
        | refine L_q (Q_notD rfl) rfl rfl rfl ?_
        | refine L_q (Q_not rfl) rfl rfl rfl ?_
      refine JL_nil ?_
      repeat first
        | refine J_seq ?_
        | refine seqQ_normal ?_
        | refine J_condT rfl ?_
        | refine J_condF rfl ?_
        | refine J_block ?_
        | refine blockQ_normal ?_
        | refine J_exit ?_
        | refine seqQ_exit ?_
        | refine blockQ_hit ?_
        | refine blockQ_miss rfl ?_
        | refine J_skip ?_
        | refine J_ret ?_
        | refine seqQ_ret ?_
        | refine blockQ_ret ?_
        | refine loopQ_exit ?_
        | refine loopQ_ret ?_
        | refine J_label ?_
        | refine J_scope ?_
        | refine scopeQ_normal ?_
        | refine scopeQ_exit ?_
        | refine scopeQ_ret ?_
      repeat first
        | refine J_seq ?_
        | refine seqQ_normal ?_
        | refine J_condT rfl ?_
        | refine J_condF rfl ?_
        | refine J_block ?_
        | refine blockQ_normal ?_
        | refine J_exit ?_
        | refine seqQ_exit ?_
        | refine blockQ_hit ?_
        | refine blockQ_miss rfl ?_
        | refine J_skip ?_
        | refine J_ret ?_
        | refine seqQ_ret ?_
        | refine blockQ_ret ?_
        | refine loopQ_exit ?_
        | refine loopQ_ret ?_
        | refine J_label ?_
        | refine J_scope ?_
        | refine scopeQ_normal ?_
        | refine scopeQ_exit ?_
        | refine scopeQ_ret ?_
      refine J_region ?_
      refine L_q (Q_move rfl) rfl rfl rfl ?_
      refine L_q (Q_move rfl) rfl rfl rfl ?_
      refine L_q (Q_move rfl) rfl rfl rfl ?_
      refine L_q (Q_add rfl rfl (by first | exact IntWalk.i64_in _ (by omega) | exact IntWalk.u8_in _ (by omega) | exact IntWalk.u32_in _ (by omega) | exact IntWalk.u64_in _ (by omega) | rfl)) rfl rfl rfl ?_
      refine L_q (Q_build rfl) rfl rfl rfl ?_
      refine L_o rfl rfl rfl (O_litP (τ := tO) (m := 1) (sz := 3) [(s, (now + 4, 8))] rfl rfl rfl rfl rfl rfl (by decide) (fun S3 => ?_))
      refine JL.norm ?_
      refine L_o rfl rfl rfl (O_app (τ := tO) 1 rfl (fun w h => h.rd 0 rfl) rfl rfl rfl rfl (by simp only [List.length_singleton]; omega) (by decide) (fun S4 => ?_))
      refine JL.norm ?_
      refine L_q (Q_assign rfl) rfl rfl rfl ?_
      refine JL_nil ?_
      repeat first
        | refine J_seq ?_
        | refine seqQ_normal ?_
        | refine J_condT rfl ?_
        | refine J_condF rfl ?_
        | refine J_block ?_
        | refine blockQ_normal ?_
        | refine J_exit ?_
        | refine seqQ_exit ?_
        | refine blockQ_hit ?_
        | refine blockQ_miss rfl ?_
        | refine J_skip ?_
        | refine J_ret ?_
        | refine seqQ_ret ?_
        | refine blockQ_ret ?_
        | refine loopQ_exit ?_
        | refine loopQ_ret ?_
        | refine J_label ?_
        | refine J_scope ?_
        | refine scopeQ_normal ?_
        | refine scopeQ_exit ?_
        | refine scopeQ_ret ?_
      repeat first
        | refine J_seq ?_
        | refine seqQ_normal ?_
        | refine J_condT rfl ?_
        | refine J_condF rfl ?_
        | refine J_block ?_
        | refine blockQ_normal ?_
        | refine J_exit ?_
        | refine seqQ_exit ?_
        | refine blockQ_hit ?_
        | refine blockQ_miss rfl ?_
        | refine J_skip ?_
        | refine J_ret ?_
        | refine seqQ_ret ?_
        | refine blockQ_ret ?_
        | refine loopQ_exit ?_
        | refine loopQ_ret ?_
        | refine J_label ?_
        | refine J_scope ?_
        | refine scopeQ_normal ?_
        | refine scopeQ_exit ?_
        | refine scopeQ_ret ?_
      refine J_region ?_
      refine L_q (Q_move rfl) rfl rfl rfl ?_
      first
        | refine L_q (Q_fa0 rfl) rfl rfl rfl ?_
        | refine L_q (Q_fa rfl rfl) rfl rfl rfl ?_
        | refine L_q (Q_pfa rfl) rfl rfl rfl ?_
      first
        | refine L_s rfl rfl (O_st1 0 rfl rfl rfl rfl rfl ?_)
        | refine L_s rfl rfl (O_st1 1 rfl rfl rfl rfl rfl ?_)
        | refine L_s rfl rfl (O_st1 2 rfl rfl rfl rfl rfl ?_)
        | refine L_s rfl rfl (O_st1 3 rfl rfl rfl rfl rfl ?_)
        | refine L_s rfl rfl (O_st1 4 rfl rfl rfl rfl rfl ?_)
        | refine L_s rfl rfl (O_st1 5 rfl rfl rfl rfl rfl ?_)
        | refine L_s rfl rfl (O_st1 6 rfl rfl rfl rfl rfl ?_)
        | refine L_s rfl rfl (O_st1 7 rfl rfl rfl rfl rfl ?_)
        | refine L_s rfl rfl (O_st1 8 rfl rfl rfl rfl rfl ?_)
        | refine L_s rfl rfl (O_st1 9 rfl rfl rfl rfl rfl ?_)
      refine JL.norm ?_
      refine JL_nil ?_
      repeat first
        | refine J_seq ?_
        | refine seqQ_normal ?_
        | refine J_condT rfl ?_
        | refine J_condF rfl ?_
        | refine J_block ?_
        | refine blockQ_normal ?_
        | refine J_exit ?_
        | refine seqQ_exit ?_
        | refine blockQ_hit ?_
        | refine blockQ_miss rfl ?_
        | refine J_skip ?_
        | refine J_ret ?_
        | refine seqQ_ret ?_
        | refine blockQ_ret ?_
        | refine loopQ_exit ?_
        | refine loopQ_ret ?_
        | refine J_label ?_
        | refine J_scope ?_
        | refine scopeQ_normal ?_
        | refine scopeQ_exit ?_
        | refine scopeQ_ret ?_
      repeat first
        | refine J_seq ?_
        | refine seqQ_normal ?_
        | refine J_condT rfl ?_
        | refine J_condF rfl ?_
        | refine J_block ?_
        | refine blockQ_normal ?_
        | refine J_exit ?_
        | refine seqQ_exit ?_
        | refine blockQ_hit ?_
        | refine blockQ_miss rfl ?_
        | refine J_skip ?_
        | refine J_ret ?_
        | refine seqQ_ret ?_
        | refine blockQ_ret ?_
        | refine loopQ_exit ?_
        | refine loopQ_ret ?_
        | refine J_label ?_
        | refine J_scope ?_
        | refine scopeQ_normal ?_
        | refine scopeQ_exit ?_
        | refine scopeQ_ret ?_
      refine J_region ?_
      first
        | refine L_q (Q_ldA 0 rfl rfl rfl) rfl rfl rfl ?_
        | refine L_q (Q_ldA 1 rfl rfl rfl) rfl rfl rfl ?_
        | refine L_q (Q_ldA 2 rfl rfl rfl) rfl rfl rfl ?_
        | refine L_q (Q_ldA 3 rfl rfl rfl) rfl rfl rfl ?_
        | refine L_q (Q_ldA 4 rfl rfl rfl) rfl rfl rfl ?_
        | refine L_q (Q_ldA 5 rfl rfl rfl) rfl rfl rfl ?_
        | refine L_q (Q_ldA 6 rfl rfl rfl) rfl rfl rfl ?_
        | refine L_q (Q_ldA 7 rfl rfl rfl) rfl rfl rfl ?_
        | refine L_q (Q_ldA 8 rfl rfl rfl) rfl rfl rfl ?_
        | refine L_q (Q_ldA 9 rfl rfl rfl) rfl rfl rfl ?_
      first
        | refine L_s rfl rfl (O_stW 0 rfl rfl rfl rfl ?_)
        | refine L_s rfl rfl (O_stW 1 rfl rfl rfl rfl ?_)
        | refine L_s rfl rfl (O_stW 2 rfl rfl rfl rfl ?_)
        | refine L_s rfl rfl (O_stW 3 rfl rfl rfl rfl ?_)
        | refine L_s rfl rfl (O_stW 4 rfl rfl rfl rfl ?_)
        | refine L_s rfl rfl (O_stW 5 rfl rfl rfl rfl ?_)
        | refine L_s rfl rfl (O_stW 6 rfl rfl rfl rfl ?_)
        | refine L_s rfl rfl (O_stW 7 rfl rfl rfl rfl ?_)
        | refine L_s rfl rfl (O_stW 8 rfl rfl rfl rfl ?_)
        | refine L_s rfl rfl (O_stW 9 rfl rfl rfl rfl ?_)
      refine JL.norm ?_
      refine L_q (Q_assign rfl) rfl rfl rfl ?_
      refine JL_nil ?_
      repeat first
        | refine J_seq ?_
        | refine seqQ_normal ?_
        | refine J_condT rfl ?_
        | refine J_condF rfl ?_
        | refine J_block ?_
        | refine blockQ_normal ?_
        | refine J_exit ?_
        | refine seqQ_exit ?_
        | refine blockQ_hit ?_
        | refine blockQ_miss rfl ?_
        | refine J_skip ?_
        | refine J_ret ?_
        | refine seqQ_ret ?_
        | refine blockQ_ret ?_
        | refine loopQ_exit ?_
        | refine loopQ_ret ?_
        | refine J_label ?_
        | refine J_scope ?_
        | refine scopeQ_normal ?_
        | refine scopeQ_exit ?_
        | refine scopeQ_ret ?_
      exact retQ_ret _ [slc tO true S4 (outT l l.length s (now + 4, 8) ++ [(s, (now + 4, 8))])] (.cons (RV_cell 2 rfl rfl rfl rfl) (.cons (RV_tmp rfl) .nil)) ⟨S4, rfl, rfl⟩ (Ent.re [1, 5] rfl)
end Go.Proofs
