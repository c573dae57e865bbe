/- The document's functions, walked. -/
import Derived.Test.YtihlnjafeocbnaaRef36
set_option autoImplicit false
namespace Go.Proofs
open Go.SL
attribute [local irreducible] J JL QOp JOp seqQ blockQ loopQ retQ slc cel hex star pur stars Does RV Ent pAt scopeQ
attribute [local irreducible] nodeA nodeX treeA
theorem rat_ok (E : World) (C : HProp) (S : SV) (l : List Kv) (k : Ky) (hC : Rdy E C S l) (hu : Up l) (hl : l.length ≤ 100000) : Does Try.prog E 27 [S.v, str k] [C] fun v L => v = .int .i64 (posK l k : Int) ∧ L = [C] := by
  refine Does.of Try.func27 rfl Try.ntmps27 rfl rfl fun F => ?_
  refine J.norm ?_
  refine J.have (p := S.n = l.length) (fun w hs => (hC w _ hs).1) fun hn => ?_
  have hpl := pos_le l k
  refine J_seq ?_
  refine J_region ?_
  refine L_q (Q_assign rfl) rfl rfl rfl ?_
  refine JL_nil ?_
  refine seqQ_normal ?_
  refine J_seq ?_
  refine J_region ?_
  refine L_q (Q_assign rfl) rfl rfl rfl ?_
  refine JL_nil ?_
  refine seqQ_normal ?_
  refine J_seq ?_
  refine J_block ?_
  refine J_loop (fun i : Nat => i ≤ posK l k) (fun i => [(0, S.v), (1, str k), (5, .int .i64 (i : Int))]) (fun _ => [C, F]) (fun i => posK l k - i) 0 (Nat.zero_le _) ⟨rfl, rfl, rfl, trivial⟩ (Ent.refl _) ?_
  intro i hi
  rcases Nat.lt_or_ge i l.length with hlt | hge
  · rcases Nat.lt_or_ge i (posK l k) with h1 | h1
    · have hk := pos_lt hu hlt h1
      refine J_seq ?_
      refine J_seq ?_
      refine J_region ?_
      refine L_q (Q_move rfl) rfl rfl rfl ?_
      refine L_q (Q_move rfl) rfl rfl rfl ?_
      refine L_q ((Q_lenV (S := S) rfl).as (v' := .int .i64 (l.length : Int)) (by rw [hn])) rfl rfl rfl ?_
      refine L_q ((Q_lss rfl rfl).as (v' := .bool true) (congrArg Value.bool (decide_eq_true (by omega)))) rfl rfl rfl ?_
      refine L_q (Q_move rfl) rfl rfl rfl ?_
      refine L_q (Q_move rfl) rfl rfl rfl ?_
      refine L_q (Q_move rfl) rfl rfl rfl ?_
      refine L_q (Q_ix (τ := tKv) i (fun w h => hC w _ h) rfl rfl rfl hlt rfl) rfl rfl rfl ?_
      refine L_q (Q_pfa rfl) rfl rfl rfl ?_
      refine L_q (Q_ldE (τ := tKv) i 0 (v := str l[i].key) (fun w h => hC w _ h) rfl rfl rfl hlt (by decide) rfl) rfl rfl rfl ?_
      refine L_q (Q_move rfl) rfl rfl rfl ?_
      refine L_q ((Q_slss rfl rfl).as (v' := .bool true) (by rw [less_kl, hk])) rfl rfl rfl ?_
      refine L_q (Q_pickT rfl rfl) rfl rfl rfl ?_
      refine JL_nil ?_
      refine seqQ_normal ?_
      refine J_condT rfl ?_
      refine J_skip ?_
      refine seqQ_normal ?_
      refine J_block ?_
      refine J_region ?_
      refine L_q (Q_move rfl) rfl rfl rfl ?_
      refine L_q (Q_add rfl rfl (by first | exact IntWalk.i64_in _ (by omega) | exact IntWalk.u8_in _ (by omega) | exact IntWalk.u32_in _ (by omega) | exact IntWalk.u64_in _ (by omega) | rfl)) rfl rfl rfl ?_
      refine L_q (Q_assign rfl) rfl rfl rfl ?_
      refine JL_nil ?_
      refine blockQ_normal ?_
      exact loopQ_normal (i + 1) h1 (by show posK l k - (i + 1) < posK l k - i; omega) ⟨rfl, rfl, rfl, trivial⟩ (Ent.refl _)
    · obtain rfl : i = posK l k := by omega
      have hk := pos_ge hu hlt (Nat.le_refl _)
      refine J_seq ?_
      refine J_seq ?_
      refine J_region ?_
      refine L_q (Q_move rfl) rfl rfl rfl ?_
      refine L_q (Q_move rfl) rfl rfl rfl ?_
      refine L_q ((Q_lenV (S := S) rfl).as (v' := .int .i64 (l.length : Int)) (by rw [hn])) rfl rfl rfl ?_
      refine L_q ((Q_lss rfl rfl).as (v' := .bool true) (congrArg Value.bool (decide_eq_true (by omega)))) rfl rfl rfl ?_
      refine L_q (Q_move rfl) rfl rfl rfl ?_
      refine L_q (Q_move rfl) rfl rfl rfl ?_
      refine L_q (Q_move rfl) rfl rfl rfl ?_
      refine L_q (Q_ix (τ := tKv) (posK l k) (fun w h => hC w _ h) rfl rfl rfl hlt rfl) rfl rfl rfl ?_
      refine L_q (Q_pfa rfl) rfl rfl rfl ?_
      refine L_q (Q_ldE (τ := tKv) (posK l k) 0 (v := str l[posK l k].key) (fun w h => hC w _ h) rfl rfl rfl hlt (by decide) rfl) rfl rfl rfl ?_
      refine L_q (Q_move rfl) rfl rfl rfl ?_
      refine L_q ((Q_slss rfl rfl).as (v' := .bool false) (by rw [less_kl, hk])) rfl rfl rfl ?_
      refine L_q (Q_pickT rfl rfl) rfl rfl rfl ?_
      refine JL_nil ?_
      refine seqQ_normal ?_
      refine J_condF rfl ?_
      refine J_exit ?_
      refine seqQ_exit ?_
      refine loopQ_exit ?_
      refine blockQ_hit ?_
      refine seqQ_normal ?_
      refine J_seq ?_
      refine J_region ?_
      refine L_q (Q_move rfl) rfl rfl rfl ?_
      refine L_q (Q_assign rfl) rfl rfl rfl ?_
      refine JL_nil ?_
      refine seqQ_normal ?_
      refine J_ret ?_
      exact retQ_ret _ [C] (.cons (RV_tmp rfl) .nil) ⟨rfl, rfl⟩ (Ent.refl _)
  · obtain rfl : i = posK l k := by omega
    refine J_seq ?_
    refine J_seq ?_
    refine J_region ?_
    refine L_q (Q_move rfl) rfl rfl rfl ?_
    refine L_q (Q_move rfl) rfl rfl rfl ?_
    refine L_q ((Q_lenV (S := S) rfl).as (v' := .int .i64 (l.length : Int)) (by rw [hn])) rfl rfl rfl ?_
    refine L_q ((Q_lss rfl rfl).as (v' := .bool false) (congrArg Value.bool (decide_eq_false (by omega)))) rfl rfl rfl ?_
    refine L_q (Q_move rfl) rfl rfl rfl ?_
    refine L_n rfl rfl rfl ?_
    refine L_n rfl rfl rfl ?_
    refine L_n rfl rfl rfl ?_
    refine L_n rfl rfl rfl ?_
    refine L_n rfl rfl rfl ?_
    refine L_n rfl rfl rfl ?_
    refine L_n rfl rfl rfl ?_
    refine L_q (Q_pickF rfl rfl) rfl rfl rfl ?_
    refine JL_nil ?_
    refine seqQ_normal ?_
    refine J_condF rfl ?_
    refine J_exit ?_
    refine seqQ_exit ?_
    refine loopQ_exit ?_
    refine blockQ_hit ?_
    refine seqQ_normal ?_
    refine J_seq ?_
    refine J_region ?_
    refine L_q (Q_move rfl) rfl rfl rfl ?_
    refine L_q (Q_assign rfl) rfl rfl rfl ?_
    refine JL_nil ?_
    refine seqQ_normal ?_
    refine J_ret ?_
    exact retQ_ret _ [C] (.cons (RV_tmp rfl) .nil) ⟨rfl, rfl⟩ (Ent.refl _)
theorem rget_ok (E : World) (C : HProp) (S : SV) (l : List Kv) (k : Ky) (hC : Rdy E C S l) (hu : Up l) (hl : l.length ≤ 100000) : Does Try.prog E 13 [S.v, str k] [C] fun v L => v = .tuple #[str (getL l k), .bool (hasL l k)] ∧ L = [C] := by
  refine Does.of Try.func13 rfl Try.ntmps13 rfl rfl fun F => ?_
  refine J.norm ?_
  refine J.have (p := S.n = l.length) (fun w hs => (hC w _ hs).1) fun hn => ?_
  have hpl := pos_le l k
  refine J_seq ?_
  refine J_region ?_
  refine L_q (Q_assign rfl) rfl rfl rfl ?_
  refine L_q (Q_assign rfl) rfl rfl rfl ?_
  refine JL_nil ?_
  refine seqQ_normal ?_
  refine J_seq ?_
  refine J_region ?_
  refine L_q (Q_move rfl) rfl rfl rfl ?_
  refine L_q (Q_move rfl) rfl rfl rfl ?_
  refine L_o rfl rfl rfl (O_call [0] [1] (rat_ok E C S l k hC hu hl) rfl rfl ?_)
  rintro _ _ ⟨rfl, rfl⟩
  refine JL.norm ?_
  refine L_q (Q_assign rfl) rfl rfl rfl ?_
  refine JL_nil ?_
  refine seqQ_normal ?_
  refine J_seq ?_
  refine J_seq ?_
  cases hh : hasL l k with
  | true =>
    obtain ⟨hlt, hk⟩ := has_at hu hh
    have hga := get_at hu hh hlt
    refine J_region ?_
    refine L_q (Q_move rfl) rfl rfl rfl ?_
    refine L_q (Q_move rfl) rfl rfl rfl ?_
    refine L_q ((Q_lenV (S := S) rfl).as (v' := .int .i64 (l.length : Int)) (by rw [hn])) rfl rfl rfl ?_
    refine L_q ((Q_lss rfl rfl).as (v' := .bool true) (congrArg Value.bool (decide_eq_true (by omega)))) rfl rfl rfl ?_
    refine L_q (Q_move rfl) rfl rfl rfl ?_
    refine L_q (Q_move rfl) rfl rfl rfl ?_
    refine L_q (Q_move rfl) rfl rfl rfl ?_
    refine L_q (Q_ix (τ := tKv) (posK l k) (fun w h => hC w _ h) rfl rfl rfl hlt rfl) rfl rfl rfl ?_
    refine L_q (Q_pfa rfl) rfl rfl rfl ?_
    refine L_q (Q_ldE (τ := tKv) (posK l k) 0 (v := str k) (fun w h => hC w _ h) rfl rfl rfl hlt (by decide) (by rw [hga]; rfl)) rfl rfl rfl ?_
    refine L_q (Q_move rfl) rfl rfl rfl ?_
    refine L_q ((Q_seql rfl rfl).as (v' := .bool true) (congrArg Value.bool (decide_eq_true rfl))) rfl rfl rfl ?_
    refine L_q (Q_pickT rfl rfl) rfl rfl rfl ?_
    refine JL_nil ?_
    refine seqQ_normal ?_
    refine J_condT rfl ?_
    refine J_seq ?_
    refine J_region ?_
    refine L_q (Q_move rfl) rfl rfl rfl ?_
    refine L_q (Q_move rfl) rfl rfl rfl ?_
    refine L_q (Q_ix (τ := tKv) (posK l k) (fun w h => hC w _ h) rfl rfl rfl hlt rfl) rfl rfl rfl ?_
    refine L_q (Q_pfa rfl) rfl rfl rfl ?_
    refine L_q (Q_ldE (τ := tKv) (posK l k) 1 (v := str (getL l k)) (fun w h => hC w _ h) rfl rfl rfl hlt (by decide) (by rw [hga]; rfl)) rfl rfl rfl ?_
    refine L_q (Q_assign rfl) rfl rfl rfl ?_
    refine L_q (Q_assign rfl) rfl rfl rfl ?_
    refine JL_nil ?_
    refine seqQ_normal ?_
    refine J_ret ?_
    refine seqQ_ret ?_
    exact retQ_ret _ [C] (.cons (RV_tmp rfl) (.cons (RV_tmp rfl) .nil)) ⟨rfl, rfl⟩ (Ent.refl _)
  | false =>
    rw [get_not hh]
    rcases Nat.lt_or_ge (posK l k) l.length with hlt | hge
    · have hne : ¬ l[posK l k].key = k := fun he => by rw [(at_has hu hlt he).1] at hh; cases hh
      refine J_region ?_
      refine L_q (Q_move rfl) rfl rfl rfl ?_
      refine L_q (Q_move rfl) rfl rfl rfl ?_
      refine L_q ((Q_lenV (S := S) rfl).as (v' := .int .i64 (l.length : Int)) (by rw [hn])) rfl rfl rfl ?_
      refine L_q ((Q_lss rfl rfl).as (v' := .bool true) (congrArg Value.bool (decide_eq_true (by omega)))) rfl rfl rfl ?_
      refine L_q (Q_move rfl) rfl rfl rfl ?_
      refine L_q (Q_move rfl) rfl rfl rfl ?_
      refine L_q (Q_move rfl) rfl rfl rfl ?_
      refine L_q (Q_ix (τ := tKv) (posK l k) (fun w h => hC w _ h) rfl rfl rfl hlt rfl) rfl rfl rfl ?_
      refine L_q (Q_pfa rfl) rfl rfl rfl ?_
      refine L_q (Q_ldE (τ := tKv) (posK l k) 0 (v := str l[posK l k].key) (fun w h => hC w _ h) rfl rfl rfl hlt (by decide) rfl) rfl rfl rfl ?_
      refine L_q (Q_move rfl) rfl rfl rfl ?_
      refine L_q ((Q_seql rfl rfl).as (v' := .bool false) (congrArg Value.bool (decide_eq_false hne))) rfl rfl rfl ?_
      refine L_q (Q_pickT rfl rfl) rfl rfl rfl ?_
      refine JL_nil ?_
      refine seqQ_normal ?_
      refine J_condF rfl ?_
      refine J_skip ?_
      refine seqQ_normal ?_
      refine J_seq ?_
      refine J_region ?_
      refine L_q (Q_assign rfl) rfl rfl rfl ?_
      refine L_q (Q_assign rfl) rfl rfl rfl ?_
      refine JL_nil ?_
      refine seqQ_normal ?_
      refine J_ret ?_
      exact retQ_ret _ [C] (.cons (RV_tmp rfl) (.cons (RV_tmp rfl) .nil)) ⟨rfl, rfl⟩ (Ent.refl _)
    · skip
      refine J_region ?_
      refine L_q (Q_move rfl) rfl rfl rfl ?_
      refine L_q (Q_move rfl) rfl rfl rfl ?_
      refine L_q ((Q_lenV (S := S) rfl).as (v' := .int .i64 (l.length : Int)) (by rw [hn])) rfl rfl rfl ?_
      refine L_q ((Q_lss rfl rfl).as (v' := .bool false) (congrArg Value.bool (decide_eq_false (by omega)))) rfl rfl rfl ?_
      refine L_q (Q_move rfl) rfl rfl rfl ?_
      refine L_n rfl rfl rfl ?_
      refine L_n rfl rfl rfl ?_
      refine L_n rfl rfl rfl ?_
      refine L_n rfl rfl rfl ?_
      refine L_n rfl rfl rfl ?_
      refine L_n rfl rfl rfl ?_
      refine L_n rfl rfl rfl ?_
      refine L_q (Q_pickF rfl rfl) rfl rfl rfl ?_
      refine JL_nil ?_
      refine seqQ_normal ?_
      refine J_condF rfl ?_
      refine J_skip ?_
      refine seqQ_normal ?_
      refine J_seq ?_
      refine J_region ?_
      refine L_q (Q_assign rfl) rfl rfl rfl ?_
      refine L_q (Q_assign rfl) rfl rfl rfl ?_
      refine JL_nil ?_
      refine seqQ_normal ?_
      refine J_ret ?_
      exact retQ_ret _ [C] (.cons (RV_tmp rfl) (.cons (RV_tmp rfl) .nil)) ⟨rfl, rfl⟩ (Ent.refl _)
theorem rput_ok (E : World) (C : HProp) (S : SV) (l : List Kv) (k v : Ky) (hC : Rdy E C S l) (hu : Up l) (hl : l.length ≤ 100000) : Does Try.prog E 24 [S.v, str k, str v] [C] fun r L => ∃ S' : SV, r = .tuple #[S'.v, .bool (!hasL l k)] ∧ L = [C, slc tKv true S' (putL l k v)] := by
  refine Does.of Try.func24 rfl Try.ntmps24 rfl rfl fun F => ?_
  refine J.norm ?_
  refine J.have (p := S.n = l.length) (fun w hs => (hC w _ hs).1) fun hn => ?_
  have hpl := pos_le l k
  have hpa := put_at hu k v
  have htl : (l.take (posK l k)).length = posK l k := by simp; omega
  refine J_seq ?_
  refine J_region ?_
  refine L_q (Q_assign rfl) rfl rfl rfl ?_
  refine L_q (Q_assign rfl) rfl rfl rfl ?_
  refine JL_nil ?_
  refine seqQ_normal ?_
  refine J_seq ?_
  refine J_region ?_
  refine L_q (Q_move rfl) rfl rfl rfl ?_
  refine L_q (Q_move rfl) rfl rfl rfl ?_
  refine L_o rfl rfl rfl (O_call [0] [1] (rat_ok E C S l k hC hu hl) rfl rfl ?_)
  rintro _ _ ⟨rfl, rfl⟩
  refine JL.norm ?_
  refine L_q (Q_assign rfl) rfl rfl rfl ?_
  refine JL_nil ?_
  refine seqQ_normal ?_
  refine J_seq ?_
  refine J_region ?_
  refine L_q (Q_move rfl) rfl rfl rfl ?_
  refine L_q (Q_move rfl) rfl rfl rfl ?_
  refine L_o rfl rfl rfl (O_call [0] [1] (rget_ok E C S l k hC hu hl) rfl rfl ?_)
  rintro _ _ ⟨rfl, rfl⟩
  refine JL.norm ?_
  refine L_q (Q_move rfl) rfl rfl rfl ?_
  refine L_q (Q_extract (v := str (getL l k)) rfl rfl) rfl rfl rfl ?_
  refine L_q (Q_extract (v := .bool (hasL l k)) rfl rfl) rfl rfl rfl ?_
  refine L_q (Q_assign rfl) rfl rfl rfl ?_
  refine L_q (Q_assign rfl) rfl rfl rfl ?_
  refine JL_nil ?_
  refine seqQ_normal ?_
  refine J_seq ?_
  refine J.ent (Ent.mk fun _ _ h => (h.lay_nil tKv true : Sat _ _ (slc tKv true SV.nil [] :: _))) ?_
  refine J.ent (Ent.re [1, 0, 2] rfl) ?_
  refine J_region ?_
  refine L_q (Q_move rfl) rfl rfl rfl ?_
  refine L_q (Q_move rfl) rfl rfl rfl ?_
  refine L_q (Q_slH (τ := tKv) (posK l k) (fun w h => hC w _ h) rfl rfl rfl hpl rfl) rfl rfl rfl ?_
  refine L_o rfl rfl rfl (O_app (τ := tKv) (S := SV.nil) 1 rfl (fun w h => (hC w _ h).begin (posK l k) hpl) rfl rfl rfl rfl (by rw [htl]; simp only [List.length_nil]; omega) (by decide) (fun W => ?_))
  refine JL.norm ?_
  refine L_q (Q_assign rfl) rfl rfl rfl ?_
  refine JL_nil ?_
  refine seqQ_normal ?_
  refine J_seq ?_
  rw [List.nil_append]
  refine J_region ?_
  refine L_q (Q_move rfl) rfl rfl rfl ?_
  refine L_q (Q_move rfl) rfl rfl rfl ?_
  refine L_q (Q_move rfl) rfl rfl rfl ?_
  refine L_q (Q_build rfl) rfl rfl rfl ?_
  refine L_o rfl rfl rfl (O_litP (τ := tKv) (m := 1) (sz := 2) [⟨k, v⟩] rfl rfl rfl rfl rfl rfl (by decide) (fun U => ?_))
  refine JL.norm ?_
  refine L_o rfl rfl rfl (O_app (τ := tKv) 2 rfl (fun w h => h.rd 0 rfl) rfl rfl rfl rfl (by rw [htl]; simp only [List.length_singleton]; omega) (by decide) (fun W => ?_))
  refine JL.norm ?_
  refine L_q (Q_assign rfl) rfl rfl rfl ?_
  refine JL_nil ?_
  refine seqQ_normal ?_
  refine J_seq ?_
  refine J_seq ?_
  refine J.ent (Ent.re [1, 0, 2, 3] rfl) ?_
  have htl2 : (l.take (posK l k) ++ [(⟨k, v⟩ : Kv)]).length = posK l k + 1 := by simp; omega
  cases hh : hasL l k with
  | true =>
    obtain ⟨hlt, hk⟩ := has_at hu hh
    rw [hh, if_pos rfl] at hpa
    refine J_region ?_
    refine L_q (Q_move rfl) rfl rfl rfl ?_
    refine JL_nil ?_
    refine seqQ_normal ?_
    refine J_condT rfl ?_
    refine J_seq ?_
    refine J_region ?_
    refine L_q (Q_move rfl) rfl rfl rfl ?_
    refine L_q (Q_move rfl) rfl rfl rfl ?_
    refine L_q (Q_move rfl) rfl rfl rfl ?_
    refine L_q (Q_add rfl rfl (by first | exact IntWalk.i64_in _ (by omega) | exact IntWalk.u8_in _ (by omega) | exact IntWalk.u32_in _ (by omega) | exact IntWalk.u64_in _ (by omega) | rfl)) rfl rfl rfl ?_
    refine L_q (Q_slL (τ := tKv) (posK l k + 1) (fun w h => hC w _ h) rfl rfl rfl hlt rfl) rfl rfl rfl ?_
    refine L_o rfl rfl rfl (O_app (τ := tKv) 2 rfl (fun w h => (hC w _ h).ends (posK l k + 1) hlt) rfl rfl rfl rfl (by rw [htl2]; simp only [List.length_drop]; omega) (by decide) (fun W => ?_))
    refine JL.norm ?_
    refine L_q (Q_assign rfl) rfl rfl rfl ?_
    refine L_q (Q_assign rfl) rfl rfl rfl ?_
    refine JL_nil ?_
    refine seqQ_normal ?_
    refine J_ret ?_
    refine seqQ_ret ?_
    rw [← hpa]
    exact retQ_ret _ [C, slc tKv true W (putL l k v)] (.cons (RV_tmp rfl) (.cons (RV_tmp rfl) .nil)) ⟨W, rfl, rfl⟩ (Ent.re [0, 2, 3] rfl)
  | false =>
    rw [hh, if_neg (by simp)] at hpa
    refine J_region ?_
    refine L_q (Q_move rfl) rfl rfl rfl ?_
    refine JL_nil ?_
    refine seqQ_normal ?_
    refine J_condF rfl ?_
    refine J_skip ?_
    refine seqQ_normal ?_
    refine J_seq ?_
    refine J_region ?_
    refine L_q (Q_move rfl) rfl rfl rfl ?_
    refine L_q (Q_move rfl) rfl rfl rfl ?_
    refine L_q (Q_move rfl) rfl rfl rfl ?_
    refine L_q (Q_slL (τ := tKv) (posK l k) (fun w h => hC w _ h) rfl rfl rfl hpl rfl) rfl rfl rfl ?_
    refine L_o rfl rfl rfl (O_app (τ := tKv) 2 rfl (fun w h => (hC w _ h).ends (posK l k) hpl) rfl rfl rfl rfl (by rw [htl2]; simp only [List.length_drop]; omega) (by decide) (fun W => ?_))
    refine JL.norm ?_
    refine L_q (Q_assign rfl) rfl rfl rfl ?_
    refine L_q (Q_assign rfl) rfl rfl rfl ?_
    refine JL_nil ?_
    refine seqQ_normal ?_
    refine J_ret ?_
    rw [← hpa]
    exact retQ_ret _ [C, slc tKv true W (putL l k v)] (.cons (RV_tmp rfl) (.cons (RV_tmp rfl) .nil)) ⟨W, rfl, rfl⟩ (Ent.re [0, 2, 3] rfl)
theorem rdel_ok (E : World) (C : HProp) (S : SV) (l : List Kv) (k : Ky) (hC : Rdy E C S l) (hu : Up l) (hl : l.length ≤ 100000) : Does Try.prog E 23 [S.v, str k] [C] fun r L => ∃ (S' : SV) (D : HProp), Rdy E (star C D) S' (delL l k) ∧ r = .tuple #[S'.v, .bool (hasL l k)] ∧ L = [C, D] := by
  refine Does.of Try.func23 rfl Try.ntmps23 rfl rfl fun F => ?_
  refine J.norm ?_
  refine J.have (p := S.n = l.length) (fun w hs => (hC w _ hs).1) fun hn => ?_
  have hpl := pos_le l k
  refine J_seq ?_
  refine J_region ?_
  refine L_q (Q_assign rfl) rfl rfl rfl ?_
  refine L_q (Q_assign rfl) rfl rfl rfl ?_
  refine JL_nil ?_
  refine seqQ_normal ?_
  refine J_seq ?_
  refine J_seq ?_
  refine J_region ?_
  refine L_q (Q_move rfl) rfl rfl rfl ?_
  refine L_q (Q_move rfl) rfl rfl rfl ?_
  refine L_o rfl rfl rfl (O_call [0] [1] (rget_ok E C S l k hC hu hl) rfl rfl ?_)
  rintro _ _ ⟨rfl, rfl⟩
  refine JL.norm ?_
  refine L_q (Q_move rfl) rfl rfl rfl ?_
  refine L_q (Q_extract (v := str (getL l k)) rfl rfl) rfl rfl rfl ?_
  refine L_q (Q_extract (v := .bool (hasL l k)) rfl rfl) rfl rfl rfl ?_
  refine L_q (Q_assign rfl) rfl rfl rfl ?_
  refine L_q (Q_assign rfl) rfl rfl rfl ?_
  refine JL_nil ?_
  refine seqQ_normal ?_
  refine J_seq ?_
  cases hh : hasL l k with
  | false =>
    have hd := del_not hu hh
    refine J_region ?_
    refine L_q (Q_move rfl) rfl rfl rfl ?_
    refine L_q ((Q_not rfl).as (v' := .bool true) rfl) rfl rfl rfl ?_
    refine JL_nil ?_
    refine seqQ_normal ?_
    refine J_condT rfl ?_
    refine J_seq ?_
    refine J_region ?_
    refine L_q (Q_move rfl) rfl rfl rfl ?_
    refine L_q (Q_assign rfl) rfl rfl rfl ?_
    refine L_q (Q_assign rfl) rfl rfl rfl ?_
    refine JL_nil ?_
    refine seqQ_normal ?_
    refine J_ret ?_
    refine seqQ_ret ?_
    exact retQ_ret _ [C, stars []] (.cons (RV_tmp rfl) (.cons (RV_tmp rfl) .nil)) ⟨S, stars [], by rw [hd]; exact hC.old, rfl, rfl⟩ (Ent.stars_nil.trans (Ent.re [1, 0, 2] rfl))
  | true =>
    obtain ⟨hlt, hk⟩ := has_at hu hh
    have hda := del_at hu hh
    have htl : (l.take (posK l k)).length = posK l k := by simp; omega
    refine J_region ?_
    refine L_q (Q_move rfl) rfl rfl rfl ?_
    refine L_q ((Q_not rfl).as (v' := .bool false) rfl) rfl rfl rfl ?_
    refine JL_nil ?_
    refine seqQ_normal ?_
    refine J_condF rfl ?_
    refine J_skip ?_
    refine seqQ_normal ?_
    refine J_seq ?_
    refine J_region ?_
    refine L_q (Q_move rfl) rfl rfl rfl ?_
    refine L_q (Q_move rfl) rfl rfl rfl ?_
    refine L_o rfl rfl rfl (O_call [0] [1] (rat_ok E C S l k hC hu hl) rfl rfl ?_)
    rintro _ _ ⟨rfl, rfl⟩
    refine JL.norm ?_
    refine L_q (Q_assign rfl) rfl rfl rfl ?_
    refine JL_nil ?_
    refine seqQ_normal ?_
    refine J_seq ?_
    refine J.ent (Ent.mk fun _ _ h => (h.lay_nil tKv true : Sat _ _ (slc tKv true SV.nil [] :: _))) ?_
    refine J.ent (Ent.re [1, 0, 2] rfl) ?_
    refine J_drawH [0] [0, 1, 2, 4, 5, 6, 7, 9, 10] (.quiet 0 (.quiet 1 (.quiet 2 (.quiet 4 (.quiet 5 (.quiet 6 (.quiet 7 (.loud 3 (.loud 8 (.quiet 9 (.quiet 10 .done))))))))))) Try.mixed (by kernel_rfl) (by kernel_rfl) (by repeat (first | exact retQ_noP | refine seqQ_noP ?_ | refine blockQ_noP ?_ | refine loopQ_noP ?_ | refine scopeQ_noP ?_ | (intro _ _ _ h; cases h.1))) ?_
    refine S_q (Ent.re [0] rfl) rfl (Q_move rfl) rfl rfl rfl ?_
    refine S_q (Ent.re [0] rfl) rfl (Q_move rfl) rfl rfl rfl ?_
    refine S_q (Ent.re [0] rfl) rfl (Q_slH (τ := tKv) (posK l k) (fun w h => hC w _ h) rfl rfl rfl hpl rfl) rfl rfl rfl ?_
    refine S_q (Ent.re [0] rfl) rfl (Q_move rfl) rfl rfl rfl ?_
    refine S_q (Ent.re [0] rfl) rfl (Q_move rfl) rfl rfl rfl ?_
    refine S_q (Ent.re [0] rfl) rfl (Q_add rfl rfl (by first | exact IntWalk.i64_in _ (by omega) | exact IntWalk.u8_in _ (by omega) | exact IntWalk.u32_in _ (by omega) | exact IntWalk.u64_in _ (by omega) | rfl)) rfl rfl rfl ?_
    refine S_q (Ent.re [0] rfl) rfl (Q_slL (τ := tKv) (posK l k + 1) (fun w h => hC w _ h) rfl rfl rfl hlt rfl) rfl rfl rfl ?_
    refine S_o rfl rfl rfl rfl (O_app (τ := tKv) (S := SV.nil) 1 rfl (fun w h => (hC w _ h).begin (posK l k) hpl) rfl rfl rfl rfl (by rw [htl]; simp only [List.length_nil]; omega) (by decide) (fun W => ⟨_, fun _ => ⟨Ent.reN [0] rfl, Ent.refl _⟩, ?_⟩))
    refine JS.norm ?_
    refine S_o rfl rfl rfl rfl (O_app (τ := tKv) 1 rfl (fun w h => (hC w _ h).ends (posK l k + 1) hlt) rfl rfl rfl rfl (by simp only [List.nil_append, List.length_drop]; omega) (by decide) (fun W2 => ⟨_, fun _ => ⟨Ent.reN [0] rfl, Ent.refl _⟩, ?_⟩))
    refine JS.norm ?_
    refine S_q (Ent.re [0] rfl) rfl (Q_assign rfl) rfl rfl rfl ?_
    refine S_q (Ent.re [0] rfl) rfl (Q_assign rfl) rfl rfl rfl ?_
    refine S_nil ?_
    refine seqQ_normal ?_
    refine J_ret ?_
    rw [List.nil_append, ← hda]
    exact retQ_ret _ [C, slc tKv true W2 (delL l k)] (.cons (RV_tmp rfl) (.cons (RV_tmp rfl) .nil)) ⟨W2, slc tKv true W2 (delL l k), Rdy.new, rfl, rfl⟩ (Ent.refl _)
theorem rsame_ok (E : World) (C : HProp) (S T : SV) (l : List Kv) (hS : Rdy E C S l) (hT : Rdy E C T l) (hl : l.length ≤ 100000) : Does Try.prog E 15 [S.v, T.v] [C] fun v L => v = .bool true ∧ L = [C] := by
  refine Does.of Try.func15 rfl Try.ntmps15 rfl rfl fun F => ?_
  refine J.norm ?_
  refine J.have (p := S.n = l.length ∧ T.n = l.length) (fun w hs => ⟨(hS w _ hs).1, (hT w _ hs).1⟩) fun ⟨hn, hm⟩ => ?_
  refine J_seq ?_
  refine J_region ?_
  refine L_q (Q_assign rfl) rfl rfl rfl ?_
  refine JL_nil ?_
  refine seqQ_normal ?_
  refine J_seq ?_
  refine J_seq ?_
  refine J_region ?_
  refine L_q (Q_move rfl) rfl rfl rfl ?_
  refine L_q ((Q_lenV (S := S) rfl).as (v' := .int .i64 (l.length : Int)) (by rw [hn])) rfl rfl rfl ?_
  refine L_q (Q_move rfl) rfl rfl rfl ?_
  refine L_q ((Q_lenV (S := T) rfl).as (v' := .int .i64 (l.length : Int)) (by rw [hm])) rfl rfl rfl ?_
  refine L_q ((Q_neq rfl rfl).as (v' := .bool false) (congrArg Value.bool (decide_eq_false (by simp)))) rfl rfl rfl ?_
  refine JL_nil ?_
  refine seqQ_normal ?_
  refine J_condF rfl ?_
  refine J_skip ?_
  refine seqQ_normal ?_
  refine J_seq ?_
  refine J_seq ?_
  refine J_region ?_
  refine L_q (Q_assign rfl) rfl rfl rfl ?_
  refine JL_nil ?_
  refine seqQ_normal ?_
  refine J_block ?_
  refine J_loop (fun i : Nat => i ≤ l.length) (fun i => [(0, S.v), (1, T.v), (5, .int .i64 (i : Int))]) (fun _ => [C, F]) (fun i => l.length - i) 0 (Nat.zero_le _) ⟨rfl, rfl, rfl, trivial⟩ (Ent.refl _) ?_
  intro i hi
  refine J_seq ?_
  refine J_seq ?_
  refine J_region ?_
  refine L_q (Q_move rfl) rfl rfl rfl ?_
  refine L_q (Q_move rfl) rfl rfl rfl ?_
  refine L_q ((Q_lenV (S := S) rfl).as (v' := .int .i64 (l.length : Int)) (by rw [hn])) rfl rfl rfl ?_
  refine L_q (Q_lss rfl rfl) rfl rfl rfl ?_
  refine JL_nil ?_
  refine seqQ_normal ?_
  refine J_condD rfl (fun h => ?_) (fun h => ?_)
  · have hlt : i < l.length := by omega
    refine J_skip ?_
    refine seqQ_normal ?_
    refine J_seq ?_
    refine J_block ?_
    refine J_seq ?_
    refine J_drawH [0] [0, 1, 2, 3, 4, 5, 6, 7, 8] (.quiet 0 (.quiet 1 (.quiet 2 (.quiet 3 (.quiet 4 (.quiet 5 (.quiet 6 (.quiet 7 (.quiet 8 .done))))))))) Try.mixed (by kernel_rfl) (by kernel_rfl) (by repeat (first | exact retQ_noP | refine seqQ_noP ?_ | refine blockQ_noP ?_ | refine loopQ_noP ?_ | refine scopeQ_noP ?_ | (intro _ _ _ h; cases h.1))) ?_
    refine S_q (Ent.re [0] rfl) rfl (Q_move rfl) rfl rfl rfl ?_
    refine S_q (Ent.re [0] rfl) rfl (Q_move rfl) rfl rfl rfl ?_
    refine S_q (Ent.re [0] rfl) rfl (Q_ix (τ := tKv) i (fun w h => hS w _ h) rfl rfl rfl hlt rfl) rfl rfl rfl ?_
    refine S_q (Ent.re [0] rfl) rfl (Q_ldEA (τ := tKv) i 0 (vs := kvV l[i]) (fun w h => hS w _ h) rfl rfl rfl hlt (by decide) rfl) rfl rfl rfl ?_
    refine S_q (Ent.re [0] rfl) rfl (Q_move rfl) rfl rfl rfl ?_
    refine S_q (Ent.re [0] rfl) rfl (Q_move rfl) rfl rfl rfl ?_
    refine S_q (Ent.re [0] rfl) rfl (Q_ix (τ := tKv) i (fun w h => hT w _ h) rfl rfl rfl hlt rfl) rfl rfl rfl ?_
    refine S_q (Ent.re [0] rfl) rfl (Q_ldEA (τ := tKv) i 0 (vs := kvV l[i]) (fun w h => hT w _ h) rfl rfl rfl hlt (by decide) rfl) rfl rfl rfl ?_
    refine S_q (Ent.re [0] rfl) rfl ((Q_gneq eqgK (eqvK l[i] l[i]) rfl rfl).as (v' := .bool false) (congrArg Value.bool (by rw [decide_eq_true rfl]; rfl))) rfl rfl rfl ?_
    refine S_nil ?_
    refine seqQ_normal ?_
    refine J_condF rfl ?_
    refine J_skip ?_
    refine blockQ_normal ?_
    refine seqQ_normal ?_
    refine J_region ?_
    refine L_q (Q_move rfl) rfl rfl rfl ?_
    refine L_q (Q_add rfl rfl (by first | exact IntWalk.i64_in _ (by omega) | exact IntWalk.u8_in _ (by omega) | exact IntWalk.u32_in _ (by omega) | exact IntWalk.u64_in _ (by omega) | rfl)) rfl rfl rfl ?_
    refine L_q (Q_assign rfl) rfl rfl rfl ?_
    refine JL_nil ?_
    exact loopQ_normal (i + 1) hlt (by show l.length - (i + 1) < l.length - i; omega) ⟨rfl, rfl, rfl, trivial⟩ (Ent.refl _)
  · refine J_exit ?_
    refine seqQ_exit ?_
    refine loopQ_exit ?_
    refine blockQ_hit ?_
    refine seqQ_normal ?_
    refine J_seq ?_
    refine J_region ?_
    refine L_q (Q_assign rfl) rfl rfl rfl ?_
    refine JL_nil ?_
    refine seqQ_normal ?_
    refine J_ret ?_
    exact retQ_ret _ [C] (.cons (RV_tmp rfl) .nil) ⟨rfl, rfl⟩ (Ent.refl _)
theorem rrange_ok (E : World) (C : HProp) (S : SV) (l : List Kv) (f to : Ky) (most : Int) (hC : Rdy E C S l) (hl : l.length ≤ 100000) : Does Try.prog E 17 [S.v, str f, str to, .int .i64 most] [C] fun v L => ∃ S' : SV, v = S'.v ∧ L = [C, slc tKv true S' (refR f to most [] l)] := by
  refine Does.of Try.func17 rfl Try.ntmps17 rfl rfl fun F => ?_
  refine J.norm ?_
  refine J.have (p := S.n = l.length) (fun w hs => (hC w _ hs).1) fun hn => ?_
  refine J_seq ?_
  refine J_region ?_
  refine L_q (Q_assign rfl) rfl rfl rfl ?_
  refine JL_nil ?_
  refine seqQ_normal ?_
  refine J_seq ?_
  refine J_region ?_
  refine L_q (Q_assign rfl) rfl rfl rfl ?_
  refine JL_nil ?_
  refine seqQ_normal ?_
  refine J_seq ?_
  refine J_seq ?_
  refine J_region ?_
  refine L_q (Q_assign rfl) rfl rfl rfl ?_
  refine JL_nil ?_
  refine seqQ_normal ?_
  refine J_block ?_
  refine J.ent (Ent.mk fun _ _ h => (h.lay_nil tKv true : Sat _ _ (slc tKv true SV.nil [] :: _))) ?_
  refine J_loop (fun i : Nat × List Kv × SV => i.1 ≤ l.length ∧ i.2.1.length ≤ i.1 ∧ refR f to most [] l = refR f to most i.2.1 (l.drop i.1)) (fun i => [(0, S.v), (1, str f), (2, str to), (3, .int .i64 most), (9, i.2.2.v), (10, .int .i64 (i.1 : Int))]) (fun i => [C, slc tKv true i.2.2 i.2.1, F]) (fun i => l.length - i.1) (0, [], SV.nil) ⟨Nat.zero_le _, Nat.le_refl _, rfl⟩ ⟨rfl, rfl, rfl, rfl, rfl, rfl, trivial⟩ (Ent.re [1, 0, 2] rfl) ?_
  rintro ⟨i, acc, S1⟩ ⟨hi, hal, hr⟩
  dsimp only at hi hal hr ⊢
  rw [hr]
  refine J.have (p := S1.n = acc.length) (fun w hs => (hs.rd 1 rfl).1) fun hn1 => ?_
  rcases Nat.lt_or_ge i l.length with hlt | hge
  · have hd := List.drop_eq_getElem_cons hlt
    by_cases h3 : (acc.length : Int) < most
    · have hs : refR f to most acc (l.drop i) = refR f to most (if (!kl l[i].key f && (decide (to = []) || kl l[i].key to)) = true then acc ++ [l[i]] else acc) (l.drop (i + 1)) := by rw [hd, refR, if_pos h3]
      refine J_seq ?_
      refine J_seq ?_
      refine J_region ?_
      refine L_q (Q_move rfl) rfl rfl rfl ?_
      refine L_q (Q_move rfl) rfl rfl rfl ?_
      refine L_q ((Q_lenV (S := S) rfl).as (v' := .int .i64 (l.length : Int)) (by rw [hn])) rfl rfl rfl ?_
      refine L_q ((Q_lss rfl rfl).as (v' := .bool true) (congrArg Value.bool (decide_eq_true (by omega)))) rfl rfl rfl ?_
      refine L_q (Q_move rfl) rfl rfl rfl ?_
      refine L_q (Q_move rfl) rfl rfl rfl ?_
      refine L_q ((Q_lenV (S := S1) rfl).as (v' := .int .i64 (acc.length : Int)) (by rw [hn1])) rfl rfl rfl ?_
      refine L_q (Q_move rfl) rfl rfl rfl ?_
      refine L_q ((Q_lss rfl rfl).as (v' := .bool true) (congrArg Value.bool (decide_eq_true h3))) rfl rfl rfl ?_
      refine L_q (Q_pickT rfl rfl) rfl rfl rfl ?_
      refine JL_nil ?_
      refine seqQ_normal ?_
      refine J_condT rfl ?_
      refine J_skip ?_
      refine seqQ_normal ?_
      refine J_seq ?_
      refine J_block ?_
      refine J_seq ?_
      refine J.mid (fun ρ' L' => envSub [(0, S.v), (1, str f), (2, str to), (3, .int .i64 most), (9, S1.v), (10, .int .i64 (i : Int)), (42, .bool (!kl l[i].key f && (decide (to = []) || kl l[i].key to)))] ρ' ∧ Ent L' [C, slc tKv true S1 acc, F]) ?_ ?_
      · cases hf : kl l[i].key f with
        | true =>
          refine J_region ?_
          refine L_q (Q_move rfl) rfl rfl rfl ?_
          refine L_q (Q_move rfl) rfl rfl rfl ?_
          refine L_q (Q_ix (τ := tKv) i (fun w h => hC w _ h) rfl rfl rfl hlt rfl) rfl rfl rfl ?_
          refine L_q (Q_pfa rfl) rfl rfl rfl ?_
          refine L_q (Q_ldE (τ := tKv) i 0 (v := str l[i].key) (fun w h => hC w _ h) rfl rfl rfl hlt (by decide) rfl) rfl rfl rfl ?_
          refine L_q (Q_move rfl) rfl rfl rfl ?_
          refine L_q ((Q_sgeq rfl rfl).as (v' := .bool false) (by rw [less_kl, hf]; rfl)) rfl rfl rfl ?_
          refine L_q (Q_move rfl) rfl rfl rfl ?_
          refine L_n rfl rfl rfl ?_
          refine L_n rfl rfl rfl ?_
          refine L_n rfl rfl rfl ?_
          refine L_n rfl rfl rfl ?_
          refine L_n rfl rfl rfl ?_
          refine L_n rfl rfl rfl ?_
          refine L_n rfl rfl rfl ?_
          refine L_n rfl rfl rfl ?_
          refine L_n rfl rfl rfl ?_
          refine L_n rfl rfl rfl ?_
          refine L_n rfl rfl rfl ?_
          refine L_q (Q_pickF rfl rfl) rfl rfl rfl ?_
          refine JL_nil ?_
          exact ⟨rfl, ⟨rfl, rfl, rfl, rfl, rfl, rfl, rfl, trivial⟩, Ent.refl _⟩
        | false =>
          by_cases ht : to = []
          · subst ht
            refine J_region ?_
            refine L_q (Q_move rfl) rfl rfl rfl ?_
            refine L_q (Q_move rfl) rfl rfl rfl ?_
            refine L_q (Q_ix (τ := tKv) i (fun w h => hC w _ h) rfl rfl rfl hlt rfl) rfl rfl rfl ?_
            refine L_q (Q_pfa rfl) rfl rfl rfl ?_
            refine L_q (Q_ldE (τ := tKv) i 0 (v := str l[i].key) (fun w h => hC w _ h) rfl rfl rfl hlt (by decide) rfl) rfl rfl rfl ?_
            refine L_q (Q_move rfl) rfl rfl rfl ?_
            refine L_q ((Q_sgeq rfl rfl).as (v' := .bool true) (by rw [less_kl, hf]; rfl)) rfl rfl rfl ?_
            refine L_q (Q_move rfl) rfl rfl rfl ?_
            refine L_q (Q_move rfl) rfl rfl rfl ?_
            refine L_q ((Q_seql rfl rfl).as (v' := .bool true) rfl) rfl rfl rfl ?_
            refine L_q (Q_move rfl) rfl rfl rfl ?_
            refine L_n rfl rfl rfl ?_
            refine L_n rfl rfl rfl ?_
            refine L_n rfl rfl rfl ?_
            refine L_n rfl rfl rfl ?_
            refine L_n rfl rfl rfl ?_
            refine L_n rfl rfl rfl ?_
            refine L_n rfl rfl rfl ?_
            refine L_q (Q_pickT rfl rfl) rfl rfl rfl ?_
            refine L_q (Q_pickT rfl rfl) rfl rfl rfl ?_
            refine JL_nil ?_
            exact ⟨rfl, ⟨rfl, rfl, rfl, rfl, rfl, rfl, by rw [decide_eq_true rfl]; rfl, trivial⟩, Ent.refl _⟩
          · rw [decide_eq_false ht, Bool.false_or]
            refine J_region ?_
            refine L_q (Q_move rfl) rfl rfl rfl ?_
            refine L_q (Q_move rfl) rfl rfl rfl ?_
            refine L_q (Q_ix (τ := tKv) i (fun w h => hC w _ h) rfl rfl rfl hlt rfl) rfl rfl rfl ?_
            refine L_q (Q_pfa rfl) rfl rfl rfl ?_
            refine L_q (Q_ldE (τ := tKv) i 0 (v := str l[i].key) (fun w h => hC w _ h) rfl rfl rfl hlt (by decide) rfl) rfl rfl rfl ?_
            refine L_q (Q_move rfl) rfl rfl rfl ?_
            refine L_q ((Q_sgeq rfl rfl).as (v' := .bool true) (by rw [less_kl, hf]; rfl)) rfl rfl rfl ?_
            refine L_q (Q_move rfl) rfl rfl rfl ?_
            refine L_q (Q_move rfl) rfl rfl rfl ?_
            refine L_q ((Q_seql rfl rfl).as (v' := .bool false) (congrArg Value.bool (decide_eq_false ht))) rfl rfl rfl ?_
            refine L_q (Q_move rfl) rfl rfl rfl ?_
            refine L_q (Q_move rfl) rfl rfl rfl ?_
            refine L_q (Q_move rfl) rfl rfl rfl ?_
            refine L_q (Q_ix (τ := tKv) i (fun w h => hC w _ h) rfl rfl rfl hlt rfl) rfl rfl rfl ?_
            refine L_q (Q_pfa rfl) rfl rfl rfl ?_
            refine L_q (Q_ldE (τ := tKv) i 0 (v := str l[i].key) (fun w h => hC w _ h) rfl rfl rfl hlt (by decide) rfl) rfl rfl rfl ?_
            refine L_q (Q_move rfl) rfl rfl rfl ?_
            refine L_q ((Q_slss rfl rfl).as (v' := .bool (kl l[i].key to)) (by rw [less_kl])) rfl rfl rfl ?_
            refine L_q (Q_pickF rfl rfl) rfl rfl rfl ?_
            refine L_q (Q_pickT rfl rfl) rfl rfl rfl ?_
            refine JL_nil ?_
            exact ⟨rfl, ⟨rfl, rfl, rfl, rfl, rfl, rfl, rfl, trivial⟩, Ent.refl _⟩
      rintro ρ1 L1 ⟨hsub, hent⟩
      refine J.sub hsub ?_
      refine J.ent hent ?_
      clear hsub hent
      cases hb : (!kl l[i].key f && (decide (to = []) || kl l[i].key to)) with
      | true =>
        rw [if_pos hb] at hs
        refine J_condT rfl ?_
        refine J_region ?_
        refine L_q (Q_move rfl) rfl rfl rfl ?_
        refine L_q (Q_move rfl) rfl rfl rfl ?_
        refine L_q (Q_move rfl) rfl rfl rfl ?_
        refine L_q (Q_ix (τ := tKv) i (fun w h => hC w _ h) rfl rfl rfl hlt rfl) rfl rfl rfl ?_
        refine L_q (Q_ldEA (τ := tKv) i 0 (vs := kvV l[i]) (fun w h => hC w _ h) rfl rfl rfl hlt (by decide) rfl) rfl rfl rfl ?_
        refine L_o rfl rfl rfl (O_litP (τ := tKv) (m := 1) (sz := 2) [l[i]] rfl rfl rfl rfl rfl rfl (by decide) (fun U => ?_))
        refine JL.norm ?_
        refine L_o rfl rfl rfl (O_app (τ := tKv) 2 rfl (fun w h => h.rd 0 rfl) rfl rfl rfl rfl (by simp only [List.length_singleton]; omega) (by decide) (fun W => ?_))
        refine JL.norm ?_
        refine L_q (Q_assign rfl) rfl rfl rfl ?_
        refine JL_nil ?_
        refine blockQ_normal ?_
        refine seqQ_normal ?_
        refine J_region ?_
        refine L_q (Q_move rfl) rfl rfl rfl ?_
        refine L_q (Q_add rfl rfl (by first | exact IntWalk.i64_in _ (by omega) | exact IntWalk.u8_in _ (by omega) | exact IntWalk.u32_in _ (by omega) | exact IntWalk.u64_in _ (by omega) | rfl)) rfl rfl rfl ?_
        refine L_q (Q_assign rfl) rfl rfl rfl ?_
        refine JL_nil ?_
        exact loopQ_normal (i + 1, acc ++ [l[i]], W) ⟨hlt, by show (acc ++ [l[i]]).length ≤ i + 1; simp; omega, hs⟩ (by show l.length - (i + 1) < l.length - i; omega) ⟨rfl, rfl, rfl, rfl, rfl, rfl, trivial⟩ (Ent.re [1, 2, 3] rfl)
      | false =>
        rw [if_neg (by rw [hb]; simp)] at hs
        refine J_condF rfl ?_
        refine J_skip ?_
        refine blockQ_normal ?_
        refine seqQ_normal ?_
        refine J_region ?_
        refine L_q (Q_move rfl) rfl rfl rfl ?_
        refine L_q (Q_add rfl rfl (by first | exact IntWalk.i64_in _ (by omega) | exact IntWalk.u8_in _ (by omega) | exact IntWalk.u32_in _ (by omega) | exact IntWalk.u64_in _ (by omega) | rfl)) rfl rfl rfl ?_
        refine L_q (Q_assign rfl) rfl rfl rfl ?_
        refine JL_nil ?_
        exact loopQ_normal (i + 1, acc, S1) ⟨hlt, by show acc.length ≤ i + 1; omega, hs⟩ (by show l.length - (i + 1) < l.length - i; omega) ⟨rfl, rfl, rfl, rfl, rfl, rfl, trivial⟩ (Ent.refl _)
    · rw [refR_full h3]
      refine J_seq ?_
      refine J_seq ?_
      refine J_region ?_
      refine L_q (Q_move rfl) rfl rfl rfl ?_
      refine L_q (Q_move rfl) rfl rfl rfl ?_
      refine L_q ((Q_lenV (S := S) rfl).as (v' := .int .i64 (l.length : Int)) (by rw [hn])) rfl rfl rfl ?_
      refine L_q ((Q_lss rfl rfl).as (v' := .bool true) (congrArg Value.bool (decide_eq_true (by omega)))) rfl rfl rfl ?_
      refine L_q (Q_move rfl) rfl rfl rfl ?_
      refine L_q (Q_move rfl) rfl rfl rfl ?_
      refine L_q ((Q_lenV (S := S1) rfl).as (v' := .int .i64 (acc.length : Int)) (by rw [hn1])) rfl rfl rfl ?_
      refine L_q (Q_move rfl) rfl rfl rfl ?_
      refine L_q ((Q_lss rfl rfl).as (v' := .bool false) (congrArg Value.bool (decide_eq_false h3))) rfl rfl rfl ?_
      refine L_q (Q_pickT rfl rfl) rfl rfl rfl ?_
      refine JL_nil ?_
      refine seqQ_normal ?_
      refine J_condF rfl ?_
      refine J_exit ?_
      refine seqQ_exit ?_
      refine loopQ_exit ?_
      refine blockQ_hit ?_
      refine seqQ_normal ?_
      refine J_seq ?_
      refine J_region ?_
      refine L_q (Q_move rfl) rfl rfl rfl ?_
      refine L_q (Q_assign rfl) rfl rfl rfl ?_
      refine JL_nil ?_
      refine seqQ_normal ?_
      refine J_ret ?_
      exact retQ_ret _ [C, slc tKv true S1 acc] (.cons (RV_tmp rfl) .nil) ⟨S1, rfl, rfl⟩ (Ent.refl _)
  · rw [List.drop_eq_nil_of_le hge]
    refine J_seq ?_
    refine J_seq ?_
    refine J_region ?_
    refine L_q (Q_move rfl) rfl rfl rfl ?_
    refine L_q (Q_move rfl) rfl rfl rfl ?_
    refine L_q ((Q_lenV (S := S) rfl).as (v' := .int .i64 (l.length : Int)) (by rw [hn])) rfl rfl rfl ?_
    refine L_q ((Q_lss rfl rfl).as (v' := .bool false) (congrArg Value.bool (decide_eq_false (by omega)))) rfl rfl rfl ?_
    refine L_q (Q_move rfl) rfl rfl rfl ?_
    refine L_n rfl rfl rfl ?_
    refine L_n rfl rfl rfl ?_
    refine L_n rfl rfl rfl ?_
    refine L_n rfl rfl rfl ?_
    refine L_q (Q_pickF rfl rfl) rfl rfl rfl ?_
    refine JL_nil ?_
    refine seqQ_normal ?_
    refine J_condF rfl ?_
    refine J_exit ?_
    refine seqQ_exit ?_
    refine loopQ_exit ?_
    refine blockQ_hit ?_
    refine seqQ_normal ?_
    refine J_seq ?_
    refine J_region ?_
    refine L_q (Q_move rfl) rfl rfl rfl ?_
    refine L_q (Q_assign rfl) rfl rfl rfl ?_
    refine JL_nil ?_
    refine seqQ_normal ?_
    refine J_ret ?_
    exact retQ_ret _ [C, slc tKv true S1 acc] (.cons (RV_tmp rfl) .nil) ⟨S1, rfl, rfl⟩ (Ent.refl _)
end Go.Proofs
