/- The document's pool: new, last; requests compared. -/
import Derived.Test.YtbpohfojedpneaaPool9
import Derived.Test.YtbpohfojedpneaaSl23
set_option autoImplicit false
namespace Go.Proofs
open Go.SL
theorem eqgR : EqG Try.prog 35 := ⟨by kernel_rfl⟩
theorem fldsC : [(3, 0), (3, 1), (9, 2), (9, 3)] = (Try.prog.fieldsOf 33).toList.map (fun f => (f.type, f.offset)) := by kernel_rfl
theorem fldsR : [(3, 0), (3, 1), (33, 2)] = (Try.prog.fieldsOf 35).toList.map (fun f => (f.type, f.offset)) := by kernel_rfl
theorem eqvC (p q : Rq) : EqV Try.prog 33 9999 (.agg #[.int .i64 p.kind, .int .i64 p.epoch, str p.name, str p.body]) (.agg #[.int .i64 q.kind, .int .i64 q.epoch, str q.name, str q.body]) (decide (p.kind = q.kind) && (decide (p.epoch = q.epoch) && (decide (p.name = q.name) && (decide (p.body = q.body) && true)))) := by
  have u : TyU Try.prog 9 .string := inferInstance
  have ui : TyU Try.prog 3 (.int .i64) := inferInstance
  exact EqV_structs [(3, 0), (3, 1), (9, 2), (9, 3)] (by kernel_rfl) (by kernel_rfl) fldsC (by kernel_rfl)
    (.cons _ _ (partS ui.h rfl rfl) (partS ui.h rfl rfl) (EqV_int 9997 .i64 p.kind q.kind) (.cons _ _ (partS ui.h rfl rfl) (partS ui.h rfl rfl) (EqV_int 9997 .i64 p.epoch q.epoch) (.cons _ _ (partS u.h rfl rfl) (partS u.h rfl rfl) (EqV_str 9997 p.name q.name) (.cons _ _ (partS u.h rfl rfl) (partS u.h rfl rfl) (EqV_str 9997 p.body q.body) .nil))))
theorem eqvR (p q : Rq) : EqV Try.prog 35 10000 (.agg (rqV p).toArray) (.agg (rqV q).toArray) (decide (p = q)) := by
  have h : (decide (p = q)) = (decide (p.client = q.client) && (decide (p.seq = q.seq) && ((decide (p.kind = q.kind) && (decide (p.epoch = q.epoch) && (decide (p.name = q.name) && (decide (p.body = q.body) && true)))) && true))) := by
    obtain ⟨a, b, c, d, e, f⟩ := p
    obtain ⟨a', b', c', d', e', f'⟩ := q
    simp
  rw [h]
  have ui : TyU Try.prog 3 (.int .i64) := inferInstance
  have uc : Try.prog.underlying 33 = some (.struct (Try.prog.fieldsOf 33)) := by kernel_rfl
  exact EqV_structs [(3, 0), (3, 1), (33, 2)] (by kernel_rfl) (by kernel_rfl) fldsR (by kernel_rfl)
    (.cons _ _ (partS ui.h rfl rfl) (partS ui.h rfl rfl) (EqV_int 9998 .i64 p.client q.client) (.cons _ _ (partS ui.h rfl rfl) (partS ui.h rfl rfl) (EqV_int 9998 .i64 p.seq q.seq) (.cons _ _ (partA (sz := 4) uc rfl rfl) (partA (sz := 4) uc rfl rfl) (eqvC p q) .nil)))
def lastV (X : Int → Int) : List Value := (List.range 16).map fun i => .int .i64 (X (i : Nat) - 1)
abbrev refC (S : SV) (X : Int → Int) : List Value := S.v :: lastV X
abbrev refP (S : SV) (X : Int → Int) : Value := .agg (refC S X).toArray
theorem lastV_len (X : Int → Int) : (lastV X).length = 16 := by simp [lastV]
instance (X : Int → Int) : SubL (lastV X) 0 16 (lastV X) := ⟨by rw [List.drop_zero, List.take_of_length_le (by rw [lastV_len]; exact Nat.le_refl _)], by rw [lastV_len]; exact Nat.le_refl _⟩
instance (X : Int → Int) : LenL (lastV X) 16 := ⟨lastV_len X⟩
theorem lastV_get (S : SV) (X : Int → Int) (j : Nat) (h : j < 16) : (refC S X)[1 + j]? = some (.int .i64 (X (j : Int) - 1)) := by
  rw [refC, Nat.add_comm, List.getElem?_cons_succ, lastV, List.getElem?_map, List.getElem?_range h]; rfl
theorem lastV_set (S : SV) (X : Int → Int) (j : Nat) (v : Int) (h : j < 16) : (refC S X).set (1 + j) (.int .i64 (v - 1)) = refC S (upd X (j : Int) v) := by
  rw [refC, refC, Nat.add_comm, List.set_cons_succ]
  congr 1
  unfold lastV
  apply List.ext_getElem?
  intro k
  rw [List.getElem?_set, List.getElem?_map, List.getElem?_map]
  by_cases hk : k < 16
  · rw [List.getElem?_range hk]
    simp only [List.length_map, List.length_range, Option.map_some, upd]
    by_cases e : j = k
    · subst e; simp [h]
    · rw [if_neg e, if_neg (by omega)]
  · rw [List.getElem?_eq_none (by simpa using hk)]
    have : j ≠ k := by omega
    simp [this]
theorem lastV_SetV (S : SV) (X : Int → Int) (j : Nat) (v w : Int) (h : j < 16) (hw : w = v - 1) : SetV (refC S X) (1 + j) (.int .i64 w) (refC S (upd X (j : Int) v)) := ⟨by rw [hw]; exact lastV_set S X j v h, by rw [refC, List.length_cons, lastV_len]; omega⟩
attribute [local irreducible] J JL QOp JOp seqQ blockQ loopQ retQ slc cel hex star pur stars Does RV Ent pAt scopeQ
theorem rsame_ok (E : World) (f f' : Bool) (S S' : SV) (l m : List Rq) (hl : l.length ≤ 100000000) : Does Try.prog E 15 [S.v, S'.v] [slc tRq f S l, slc tRq f' S' m] fun v L => v = .bool (decide (l = m)) ∧ L = [slc tRq f S l, slc tRq f' S' m] := by
  refine Does.of Try.func15 rfl Try.ntmps15 rfl rfl fun F => ?_
  refine J.norm ?_
  refine J_seq ?_
  refine J_region ?_
  refine L_q (Q_assign rfl) rfl rfl rfl ?_
  refine JL_nil ?_
  refine seqQ_normal ?_
  refine J_seq ?_
  refine J_seq ?_
  refine J_region ?_
  refine L_q (Q_move rfl) rfl rfl rfl ?_
  refine L_q (Q_lenAt 0 rfl rfl) rfl rfl rfl ?_
  refine L_q (Q_move rfl) rfl rfl rfl ?_
  refine L_q (Q_lenAt 1 rfl rfl) rfl rfl rfl ?_
  refine L_q (Q_neq rfl rfl) rfl rfl rfl ?_
  refine JL_nil ?_
  refine seqQ_normal ?_
  refine J_condD rfl (fun h => ?_) (fun h => ?_)
  · have e : decide (l = m) = false := decide_eq_false (by rintro rfl; exact h rfl)
    rw [e]
    refine J_seq ?_
    refine J_region ?_
    refine L_q (Q_assign rfl) rfl rfl rfl ?_
    refine JL_nil ?_
    refine seqQ_normal ?_
    refine J_ret ?_
    refine seqQ_ret ?_
    exact retQ_ret _ [slc tRq f S l, slc tRq f' S' m] (.cons (RV_tmp rfl) .nil) ⟨rfl, rfl⟩ (Ent.refl _)
  have hlm : l.length = m.length := by omega
  refine J_skip ?_
  refine seqQ_normal ?_
  refine J_seq ?_
  refine J_seq ?_
  refine J_region ?_
  refine L_q (Q_assign rfl) rfl rfl rfl ?_
  refine JL_nil ?_
  refine seqQ_normal ?_
  refine J_block ?_
  refine J_loop (fun i : Nat => i ≤ l.length ∧ l.take i = m.take i) (fun i => [(0, S.v), (1, S'.v), (5, .int .i64 (i : Int))])
    (fun _ => [slc tRq f S l, slc tRq f' S' m, F]) (fun i => l.length - i) 0 ⟨by omega, rfl⟩ ⟨rfl, rfl, rfl, trivial⟩ (Ent.refl _) ?_
  rintro k ⟨hk, he⟩
  refine J_seq ?_
  refine J_seq ?_
  refine J_region ?_
  refine L_q (Q_move rfl) rfl rfl rfl ?_
  refine L_q (Q_move rfl) rfl rfl rfl ?_
  refine L_q (Q_lenAt 0 rfl rfl) rfl rfl rfl ?_
  refine L_q (Q_lss rfl rfl) rfl rfl rfl ?_
  refine JL_nil ?_
  refine seqQ_normal ?_
  refine J_condD rfl (fun h2 => ?_) (fun h2 => ?_)
  · have hl1 : k < l.length := by omega
    have hm1 : k < m.length := by omega
    refine J_skip ?_
    refine seqQ_normal ?_
    refine J_seq ?_
    refine J_block ?_
    refine J_seq ?_
    refine J_drawH [0,1] [0, 1, 2, 3, 4, 5, 6, 7, 8] (.quiet 0 (.quiet 1 (.quiet 2 (.quiet 3 (.quiet 4 (.quiet 5 (.quiet 6 (.quiet 7 (.quiet 8 .done))))))))) Try.mixed (by kernel_rfl) (by kernel_rfl) (by repeat (first | exact retQ_noP | refine seqQ_noP ?_ | refine blockQ_noP ?_ | refine loopQ_noP ?_ | refine scopeQ_noP ?_)) ?_
    refine S_q (Ent.re [0,1] rfl) rfl (Q_move rfl) rfl rfl rfl ?_
    refine S_q (Ent.re [0,1] rfl) rfl (Q_move rfl) rfl rfl rfl ?_
    refine S_q (Ent.re [0,1] rfl) rfl (Q_ixAt 0 k rfl rfl rfl rfl hl1 rfl) rfl rfl rfl ?_
    refine S_q (Ent.re [0,1] rfl) rfl (Q_ldEAAt 0 k 0 (vs := rqV l[k]) rfl rfl rfl rfl hl1 (by decide) rfl) rfl rfl rfl ?_
    refine S_q (Ent.re [0,1] rfl) rfl (Q_move rfl) rfl rfl rfl ?_
    refine S_q (Ent.re [0,1] rfl) rfl (Q_move rfl) rfl rfl rfl ?_
    refine S_q (Ent.re [0,1] rfl) rfl (Q_ixAt 1 k rfl rfl rfl rfl hm1 rfl) rfl rfl rfl ?_
    refine S_q (Ent.re [0,1] rfl) rfl (Q_ldEAAt 1 k 0 (vs := rqV m[k]) rfl rfl rfl rfl hm1 (by decide) rfl) rfl rfl rfl ?_
    refine S_q (Ent.re [0,1] rfl) rfl (Q_gneq eqgR (eqvR l[k] m[k]) rfl rfl) rfl rfl rfl ?_
    refine S_nil ?_
    refine seqQ_normal ?_
    cases hd : decide (l[k] = m[k]) with
    | true =>
      have hd := of_decide_eq_true hd
      refine J_condF rfl ?_
      refine J_skip ?_
      refine blockQ_normal ?_
      refine seqQ_normal ?_
      refine J_region ?_
      refine L_q (Q_move rfl) rfl rfl rfl ?_
      refine L_q (Q_add rfl rfl (by first | exact IntWalk.i64_in _ (by omega) | exact IntWalk.u8_in _ (by omega) | exact IntWalk.u32_in _ (by omega) | exact IntWalk.u64_in _ (by omega) | rfl)) rfl rfl rfl ?_
      refine L_q (Q_assign rfl) rfl rfl rfl ?_
      refine JL_nil ?_
      refine loopQ_normal (k + 1) ⟨by omega, ?_⟩ (by omega) ⟨rfl, rfl, rfl, trivial⟩ (Ent.refl _)
      rw [List.take_succ_eq_append_getElem hl1, List.take_succ_eq_append_getElem hm1, he, hd]
    | false =>
      have hd := of_decide_eq_false hd
      have e : decide (l = m) = false := decide_eq_false (by rintro rfl; exact hd rfl)
      rw [e]
      refine J_condT rfl ?_
      refine J_seq ?_
      refine J_region ?_
      refine L_q (Q_assign rfl) rfl rfl rfl ?_
      refine JL_nil ?_
      refine seqQ_normal ?_
      refine J_ret ?_
      refine blockQ_ret ?_
      refine seqQ_ret ?_
      refine loopQ_ret ?_
      refine blockQ_ret ?_
      refine seqQ_ret ?_
      exact retQ_ret _ [slc tRq f S l, slc tRq f' S' m] (.cons (RV_tmp rfl) .nil) ⟨rfl, rfl⟩ (Ent.refl _)
  · obtain rfl : k = l.length := by omega
    rw [List.take_length, hlm, List.take_length] at he
    rw [decide_eq_true he]
    refine J_exit ?_
    refine seqQ_exit ?_
    refine loopQ_exit ?_
    refine blockQ_hit ?_
    refine seqQ_normal ?_
    refine J_seq ?_
    refine J_region ?_
    refine L_q (Q_assign rfl) rfl rfl rfl ?_
    refine JL_nil ?_
    refine seqQ_normal ?_
    refine J_ret ?_
    exact retQ_ret _ [slc tRq f S l, slc tRq f' S' m] (.cons (RV_tmp rfl) .nil) ⟨rfl, rfl⟩ (Ent.refl _)
theorem rlast_ok (E : World) (S : SV) (X : Int → Int) (c : Int) (hX : X c = 0 ∨ (0 ≤ c ∧ c ≤ 15)) : Does Try.prog E 20 [refP S X, .int .i64 c] [] fun v L => v = .int .i64 (X c - 1) ∧ L = [] := by
  refine Does.of Try.func20 rfl Try.ntmps20 rfl rfl fun F => ?_
  refine J.norm ?_
  refine J_seq ?_
  refine J_region ?_
  refine L_o rfl rfl rfl (O_box rfl fun b2 => ?_)
  refine L_q (Q_assign rfl) rfl rfl rfl ?_
  refine JL_nil ?_
  refine seqQ_normal ?_
  refine J_seq ?_
  refine J_seq ?_
  by_cases c1 : c < 0
  · skip
    refine J_region ?_
    refine L_q (Q_move rfl) rfl rfl rfl ?_
    refine L_q ((Q_lss rfl rfl).as (v' := .bool true) (congrArg Value.bool (decide_eq_true c1))) rfl rfl rfl ?_
    refine L_q (Q_move rfl) rfl rfl rfl ?_
    refine L_n rfl rfl rfl ?_
    refine L_n rfl rfl rfl ?_
    refine L_q (Q_pickT rfl rfl) rfl rfl rfl ?_
    refine JL_nil ?_
    refine seqQ_normal ?_
    refine J_condT rfl ?_
    refine J_seq ?_
    refine J_region ?_
    refine L_q (Q_assign rfl) rfl rfl rfl ?_
    refine JL_nil ?_
    refine seqQ_normal ?_
    refine J_ret ?_
    refine seqQ_ret ?_
    exact retQ_ret _ [] (.cons (RV_tmp rfl) .nil) ⟨by rw [hX.resolve_right (by omega)]; rfl, rfl⟩ (Ent.re [1] rfl)
  by_cases c2 : c > 15
  · skip
    refine J_region ?_
    refine L_q (Q_move rfl) rfl rfl rfl ?_
    refine L_q ((Q_lss rfl rfl).as (v' := .bool false) (congrArg Value.bool (decide_eq_false c1))) rfl rfl rfl ?_
    refine L_q (Q_move rfl) rfl rfl rfl ?_
    refine L_q (Q_move rfl) rfl rfl rfl ?_
    refine L_q ((Q_gtr rfl rfl).as (v' := .bool true) (congrArg Value.bool (decide_eq_true c2))) rfl rfl rfl ?_
    refine L_q (Q_pickF rfl rfl) rfl rfl rfl ?_
    refine JL_nil ?_
    refine seqQ_normal ?_
    refine J_condT rfl ?_
    refine J_seq ?_
    refine J_region ?_
    refine L_q (Q_assign rfl) rfl rfl rfl ?_
    refine JL_nil ?_
    refine seqQ_normal ?_
    refine J_ret ?_
    refine seqQ_ret ?_
    exact retQ_ret _ [] (.cons (RV_tmp rfl) .nil) ⟨by rw [hX.resolve_right (by omega)]; rfl, rfl⟩ (Ent.re [1] rfl)
  obtain ⟨j, rfl⟩ : ∃ j : Nat, c = (j : Int) := ⟨c.toNat, by omega⟩
  have hj : j < 16 := by omega
  have hg := lastV_get S X j hj
  refine J_region ?_
  refine L_q (Q_move rfl) rfl rfl rfl ?_
  refine L_q ((Q_lss rfl rfl).as (v' := .bool false) (congrArg Value.bool (decide_eq_false c1))) rfl rfl rfl ?_
  refine L_q (Q_move rfl) rfl rfl rfl ?_
  refine L_q (Q_move rfl) rfl rfl rfl ?_
  refine L_q ((Q_gtr rfl rfl).as (v' := .bool false) (congrArg Value.bool (decide_eq_false c2))) rfl rfl rfl ?_
  refine L_q (Q_pickF rfl rfl) rfl rfl rfl ?_
  refine JL_nil ?_
  refine seqQ_normal ?_
  refine J_condF rfl ?_
  refine J_skip ?_
  refine seqQ_normal ?_
  refine J_seq ?_
  refine J_region ?_
  refine L_q (Q_move rfl) rfl rfl rfl ?_
  refine L_q (Q_fa0 rfl) rfl rfl rfl ?_
  refine L_q (Q_ia (sz := 1) j rfl rfl rfl hj (show 1 + j * 1 = 1 + j by omega)) rfl rfl rfl ?_
  refine L_q (Q_ld 0 rfl rfl rfl hg) rfl rfl rfl ?_
  refine L_q (Q_assign rfl) rfl rfl rfl ?_
  refine JL_nil ?_
  refine seqQ_normal ?_
  refine J_ret ?_
  exact retQ_ret _ [] (.cons (RV_tmp rfl) .nil) ⟨rfl, rfl⟩ (Ent.re [1] rfl)
theorem rnew_ok (E : World) : Does Try.prog E 10 [] [] fun v L => v = refP SV.nil X0 ∧ L = [] := by
  refine Does.of Try.func10 rfl Try.ntmps10 rfl rfl fun F => ?_
  refine J.norm ?_
  refine J_seq ?_
  refine J_region ?_
  refine L_o rfl rfl rfl (O_alloc fun b0 => ?_)
  refine JL_nil ?_
  refine seqQ_normal ?_
  refine J_seq ?_
  refine J_region ?_
  refine L_q (Q_build rfl) rfl rfl rfl ?_
  refine L_o rfl rfl rfl (O_alloc fun b1 => ?_)
  refine L_s rfl rfl (O_stW 0 rfl rfl rfl rfl ?_)
  refine JL.norm ?_
  refine JL_nil ?_
  refine seqQ_normal ?_
  refine J_seq ?_
  refine J_seq ?_
  refine J_region ?_
  refine L_q (Q_assign rfl) rfl rfl rfl ?_
  refine JL_nil ?_
  refine seqQ_normal ?_
  refine J_block ?_
  refine J_loop (fun k : Nat => k ≤ 16) (fun k => [(0, .pointer (some ⟨b0, 0, none⟩)), (1, .pointer (some ⟨b1, 0, none⟩)), (2, .int .i64 (k : Int))])
    (fun k => [cel b1 (refC SV.nil fun j => if j < (k : Int) then 0 else 1) 30, cel b0 (refC SV.nil fun _ => 1) 30, F]) (fun k => 16 - k) 0 (by omega) ⟨rfl, rfl, rfl, trivial⟩ (Ent.mk fun _ _ h => by
      have e : lastV (fun j => if j < ((0 : Nat) : Int) then 0 else 1) = lastV fun _ => 1 := by unfold lastV; rfl
      simp only [refC, e]; exact h) ?_
  intro k hk
  refine J_seq ?_
  refine J_seq ?_
  refine J_region ?_
  refine L_q (Q_move rfl) rfl rfl rfl ?_
  refine L_q (Q_leq rfl rfl) rfl rfl rfl ?_
  refine JL_nil ?_
  refine seqQ_normal ?_
  refine J_condD rfl (fun h => ?_) (fun h => ?_)
  · have hk16 : k < 16 := by omega
    have hset := lastV_SetV SV.nil (fun j => if j < (k : Int) then 0 else 1) k 0 (-1) hk16 rfl
    have hu : upd (fun j => if j < (k : Int) then (0 : Int) else 1) (k : Int) 0 = fun j => if j < ((k + 1 : Nat) : Int) then 0 else 1 := by
      funext j
      unfold upd
      by_cases e : (k : Int) = j
      · rw [if_pos e, if_pos (by omega)]
      · rw [if_neg e]
        show (if j < (k : Int) then (0 : Int) else 1) = _
        by_cases e2 : j < (k : Int)
        · rw [if_pos e2, if_pos (by omega)]
        · rw [if_neg e2, if_neg (by omega)]
    rw [hu] at hset
    refine J_skip ?_
    refine seqQ_normal ?_
    refine J_seq ?_
    refine J_block ?_
    refine J_region ?_
    refine L_q (Q_move rfl) rfl rfl rfl ?_
    refine L_q (Q_fa0 rfl) rfl rfl rfl ?_
    refine L_q (Q_ia (sz := 1) k rfl rfl rfl hk16 (show 1 + k * 1 = 1 + k by omega)) rfl rfl rfl ?_
    refine L_s rfl rfl (O_st1 0 rfl rfl rfl rfl rfl ?_)
    refine JL.norm ?_
    refine JL_nil ?_
    refine blockQ_normal ?_
    refine seqQ_normal ?_
    refine J_region ?_
    refine L_q (Q_move rfl) rfl rfl rfl ?_
    refine L_q (Q_add rfl rfl (by first | exact IntWalk.i64_in _ (by omega) | exact IntWalk.u8_in _ (by omega) | exact IntWalk.u32_in _ (by omega) | exact IntWalk.u64_in _ (by omega) | rfl)) rfl rfl rfl ?_
    refine L_q (Q_assign rfl) rfl rfl rfl ?_
    refine JL_nil ?_
    exact loopQ_normal (k + 1) hk16 (by omega) ⟨rfl, rfl, rfl, trivial⟩ (Ent.refl _)
  · obtain rfl : k = 16 := by omega
    have e : lastV (fun j => if j < ((16 : Nat) : Int) then 0 else 1) = lastV X0 := by unfold lastV; rfl
    simp only [refC, e]
    refine J_exit ?_
    refine seqQ_exit ?_
    refine loopQ_exit ?_
    refine blockQ_hit ?_
    refine seqQ_normal ?_
    refine J_seq ?_
    refine J_region ?_
    refine L_q (Q_ldA 0 rfl rfl rfl) rfl rfl rfl ?_
    refine L_s rfl rfl (O_stW 1 rfl rfl rfl rfl ?_)
    refine JL.norm ?_
    refine JL_nil ?_
    refine seqQ_normal ?_
    refine J_ret ?_
    exact retQ_ret _ [] (.cons (RV_cell 1 rfl rfl rfl rfl) .nil) ⟨rfl, rfl⟩ (Ent.re [2] rfl)
end Go.Proofs
