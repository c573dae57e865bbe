/- A timer's due numbers; numbers acknowledged. -/
import Derived.Test.YtmmkepghmmbppaaTim1
set_option autoImplicit false
namespace Go.Proofs
open Go.SL
theorem split_at {α : Type} (l : List α) (k : Nat) (h : k < l.length) : ∃ a x b, l = a ++ x :: b ∧ a.length = k := ⟨l.take k, l[k], l.drop (k + 1), by
  rw [← List.drop_eq_getElem_cons h, List.take_append_drop], by simp; omega⟩
attribute [local irreducible] J JL QOp JOp seqQ blockQ loopQ retQ slc cel hex star pur stars Does RV Ent pAt scopeQ
attribute [local irreducible] mpC
theorem tdue_ok (E : World) (p most r : Nat) (m l : List Op3) (now : Int) (h : Rel m l) (hl : l.length ≤ 1000) :
    Does Try.prog E 18 [.pointer (some ⟨p, 0, none⟩), .int .i64 now] [timC p most r, mpC mW r m] fun v L => ∃ (S : SV) (m' : List Op3), v = S.v ∧ Rel m' (dueL l now) ∧ L = [timC p most r, mpC mW r m', slc tZ true S (dueO l now)] := by
  have hmo := moment_ok E now
  have hop := topen_ok E p most r m l h hl
  refine Does.of Try.func18 rfl Try.ntmps18 rfl rfl fun F => ?_
  refine J.norm ?_
  refine J_seq ?_
  refine J_region ?_
  refine L_q (Q_assign rfl) rfl rfl rfl ?_
  refine JL_nil ?_
  refine seqQ_normal ?_
  refine J_seq ?_
  refine J_seq ?_
  cases hq : moment now with
  | false =>
    rw [hq] at hmo
    have h1 : dueL l now = l := by unfold dueL; rw [hq]; rfl
    have h2 : dueO l now = [] := by unfold dueO; rw [hq]; rfl
    rw [h1, h2]
    refine J_region ?_
    refine L_q (Q_move rfl) rfl rfl rfl ?_
    refine L_o rfl rfl rfl (O_call [] [0,1,2] hmo rfl rfl ?_)
    rintro _ _ ⟨rfl, rfl⟩
    refine JL.norm ?_
    refine L_q (Q_not rfl) rfl rfl rfl ?_
    refine JL_nil ?_
    refine seqQ_normal ?_
    refine J_condT rfl ?_
    refine J_seq ?_
    refine J_region ?_
    refine L_q (Q_assign rfl) rfl rfl rfl ?_
    refine JL_nil ?_
    refine seqQ_normal ?_
    refine J_ret ?_
    refine seqQ_ret ?_
    refine retQ_ret _ [timC p most r, mpC mW r m, slc tZ true SV.nil []] (.cons (RV_tmp rfl) .nil) ⟨SV.nil, m, rfl, h, rfl⟩ ?_
    exact (Ent.mk fun _ _ h => (h.lay_nil tZ true : Sat _ _ (slc tZ true SV.nil [] :: _))).trans (Ent.re [1, 2, 0, 3] rfl)
  | true =>
  rw [hq] at hmo
  have h1 : dueL l now = l.map (dueF now) := by unfold dueL; rw [hq]; rfl
  have h2 : dueO l now = (l.filter fun x => decide (x.2.1 ≤ now)).map fun x : Op3 => x.1 := by unfold dueO; rw [hq]; rfl
  have hmm : 0 ≤ now ∧ now ≤ 1099511627776 := by simpa [moment] using hq
  rw [h1, h2]
  refine J_region ?_
  refine L_q (Q_move rfl) rfl rfl rfl ?_
  refine L_o rfl rfl rfl (O_call [] [0,1,2] hmo rfl rfl ?_)
  rintro _ _ ⟨rfl, rfl⟩
  refine JL.norm ?_
  refine L_q (Q_not rfl) rfl rfl rfl ?_
  refine JL_nil ?_
  refine seqQ_normal ?_
  refine J_condF rfl ?_
  refine J_skip ?_
  refine seqQ_normal ?_
  refine J_seq ?_
  refine J_region ?_
  refine L_q (Q_assign rfl) rfl rfl rfl ?_
  refine JL_nil ?_
  refine seqQ_normal ?_
  refine J_seq ?_
  refine J_seq ?_
  refine J_region ?_
  refine L_q (Q_move rfl) rfl rfl rfl ?_
  refine L_o rfl rfl rfl (O_call [0,1] [2] hop rfl rfl ?_)
  rintro _ _ ⟨S, rfl, rfl⟩
  refine JL.norm ?_
  refine L_q (Q_lenAt 2 rfl rfl) rfl rfl rfl ?_
  refine L_q (Q_move rfl) rfl rfl rfl ?_
  refine JL_nil ?_
  refine seqQ_normal ?_
  refine J_block ?_
  refine J.ent (Ent.mk fun _ _ h => (h.lay_nil tZ true : Sat _ _ (slc tZ true SV.nil [] :: _))) ?_
  have hkl : (l.map fun x : Op3 => x.1).length = l.length := by simp
  refine J_loop (fun i : Nat × List Op3 × SV => i.1 ≤ l.length ∧ Rel i.2.1 ((l.take i.1).map (dueF now) ++ l.drop i.1)) (fun i => [(0, .pointer (some ⟨p, 0, none⟩)), (1, .int .i64 now), (5, i.2.2.v), (13, S.v), (14, .int .i64 (l.length : Int)), (15, .int .i64 (i.1 : Int))])
    (fun i => [timC p most r, mpC mW r i.2.1, slc tZ true S (l.map fun x : Op3 => x.1), slc tZ true i.2.2 (((l.take i.1).filter fun x => decide (x.2.1 ≤ now)).map fun x : Op3 => x.1), F]) (fun i => l.length - i.1) (0, m, SV.nil) ⟨by simp, by simpa using h⟩ ⟨rfl, rfl, rfl, rfl, by rw [← hkl]; rfl, rfl, trivial⟩ (Ent.re [1, 2, 3, 0, 4] rfl) ?_
  rintro ⟨k, m2, O⟩ ⟨hk, hR⟩
  dsimp only at hk hR ⊢
  refine J_seq ?_
  refine J_region ?_
  refine L_q (Q_lss rfl rfl) rfl rfl rfl ?_
  refine JL_nil ?_
  refine seqQ_normal ?_
  refine J_seq ?_
  refine J_condD rfl (fun h3 => ?_) (fun h3 => ?_)
  · have hlt : k < l.length := by omega
    obtain ⟨a, x, b, rfl, rfl⟩ := split_at l k hlt
    have hxo := h.ok x (by simp)
    rw [List.take_left, List.drop_left] at hR
    rw [List.take_left]
    have htk : (a ++ x :: b).take (a.length + 1) = a ++ [x] := by
      rw [List.take_append, List.take_of_length_le (by omega)]; simp
    have hdk : (a ++ x :: b).drop (a.length + 1) = b := by
      rw [List.drop_append]; simp
    have hgx := hR.get
    have hltk : a.length < ((a ++ x :: b).map fun x : Op3 => x.1).length := by rw [List.length_map]; exact hlt
    have hgk : ((a ++ x :: b).map fun x : Op3 => x.1)[a.length] = x.1 := by simp
    have hfl : ((a.filter fun x => decide (x.2.1 ≤ now)).map fun x : Op3 => x.1).length ≤ 1000 := by
      rw [List.length_map]
      have := List.length_filter_le (fun x : Op3 => decide (x.2.1 ≤ now)) a
      omega
    refine J_skip ?_
    refine seqQ_normal ?_
    refine J_seq ?_
    refine J_block ?_
    refine J_seq ?_
    refine J_region ?_
    refine L_q (Q_ixAt 2 a.length rfl rfl rfl rfl hltk rfl) rfl rfl rfl ?_
    refine L_q (Q_ldEAt 2 a.length 0 (v := .int .i64 x.1) rfl rfl rfl rfl hltk (by decide) (by rw [hgk]; rfl)) rfl rfl rfl ?_
    refine L_q (Q_assign rfl) rfl rfl rfl ?_
    refine JL_nil ?_
    refine seqQ_normal ?_
    refine J_seq ?_
    refine J_region ?_
    refine L_q (Q_move rfl) rfl rfl rfl ?_
    refine L_q (Q_nilCheck rfl) rfl rfl rfl ?_
    refine L_q (Q_fa0 rfl) rfl rfl rfl ?_
    refine L_q (Q_ld 0 rfl rfl rfl rfl) rfl rfl rfl ?_
    refine L_q (Q_move rfl) rfl rfl rfl ?_
    refine L_q ((Q_mget (M := mW) 1 x.1 rfl rfl rfl).as (v' := .agg #[.int .i64 x.2.1, .int .i64 x.2.2]) (by rw [hgx]; rfl)) rfl rfl rfl ?_
    refine L_o rfl rfl rfl (O_alloc fun b8 => ?_)
    refine L_s rfl rfl (O_stW 0 rfl rfl rfl rfl ?_)
    refine JL.norm ?_
    refine JL_nil ?_
    refine seqQ_normal ?_
    refine J_seq ?_
    refine J_seq ?_
    by_cases hd : x.2.1 ≤ now
    · have hfx : dueF now x = (x.1, (now + x.2.2, min (2 * x.2.2) 64)) := by unfold dueF; rw [if_pos hd]
      have hup := hR.upd (y := dueF now x) (dueF_key now x) (dueF_ok hq hxo)
      rw [hfx] at hup
      dsimp only at hup
      refine J_region ?_
      refine L_q (Q_fa0 rfl) rfl rfl rfl ?_
      refine L_q (Q_ld 0 rfl rfl rfl rfl) rfl rfl rfl ?_
      refine L_q (Q_move rfl) rfl rfl rfl ?_
      refine L_q ((Q_gtr rfl rfl).as (v' := .bool false) (congrArg Value.bool (decide_eq_false (by omega)))) rfl rfl rfl ?_
      refine JL_nil ?_
      refine seqQ_normal ?_
      refine J_condF rfl ?_
      refine J_skip ?_
      refine seqQ_normal ?_
      refine J_seq ?_
      refine J_region ?_
      refine L_q (Q_move rfl) rfl rfl rfl ?_
      refine L_q (Q_move rfl) rfl rfl rfl ?_
      refine L_o rfl rfl rfl (O_litP (τ := tZ) (m := 1) (sz := 1) [x.1] rfl rfl rfl rfl rfl rfl (by decide) (fun S1 => ?_))
      refine JL.norm ?_
      refine L_o rfl rfl rfl (O_app (τ := tZ) 5 rfl (fun w h => h.rd 0 rfl) rfl rfl rfl rfl (by simp only [List.length_singleton]; omega) (by decide) (fun S2 => ?_))
      refine JL.norm ?_
      refine L_q (Q_assign rfl) rfl rfl rfl ?_
      refine JL_nil ?_
      refine seqQ_normal ?_
      refine J_drawH [1,2] [0, 1, 2, 3, 4, 5, 6, 7, 8, 9, 10, 11, 12, 13] (.quiet 0 (.quiet 1 (.quiet 2 (.quiet 3 (.quiet 4 (.quiet 5 (.quiet 6 (.quiet 7 (.quiet 8 (.quiet 9 (.quiet 10 (.quiet 11 (.quiet 12 (.quiet 13 (.loud 14 .done))))))))))))))) Try.mixed (by kernel_rfl) (by kernel_rfl) (by repeat (first | exact retQ_noP | refine seqQ_noP ?_ | refine blockQ_noP ?_ | refine loopQ_noP ?_ | refine scopeQ_noP ?_ | (intro _ _ _ h; cases h.1))) ?_
      refine S_q (Ent.re [1,2] rfl) rfl (Q_move rfl) rfl rfl rfl ?_
      refine S_q (Ent.re [1,2] rfl) rfl (Q_nilCheck rfl) rfl rfl rfl ?_
      refine S_q (Ent.re [1,2] rfl) rfl (Q_fa0 rfl) rfl rfl rfl ?_
      refine S_q (Ent.re [1,2] rfl) rfl (Q_ld 1 rfl rfl rfl rfl) rfl rfl rfl ?_
      refine S_q (Ent.re [1,2] rfl) rfl (Q_move rfl) rfl rfl rfl ?_
      refine S_q (Ent.re [1,2] rfl) rfl (Q_move rfl) rfl rfl rfl ?_
      refine S_q (Ent.re [1,2] rfl) rfl (Q_fa0 rfl) rfl rfl rfl ?_
      refine S_q (Ent.re [1,2] rfl) rfl (Q_ld 0 rfl rfl rfl rfl) rfl rfl rfl ?_
      refine S_q (Ent.re [1,2] rfl) rfl (Q_add rfl rfl (by first | exact IntWalk.i64_in _ (by omega) | exact IntWalk.u8_in _ (by omega) | exact IntWalk.u32_in _ (by omega) | exact IntWalk.u64_in _ (by omega) | rfl)) rfl rfl rfl ?_
      refine S_q (Ent.re [1,2] rfl) rfl (Q_fa0 rfl) rfl rfl rfl ?_
      refine S_q (Ent.re [1,2] rfl) rfl (Q_ld 0 rfl rfl rfl rfl) rfl rfl rfl ?_
      refine S_q (Ent.re [1,2] rfl) rfl (Q_mul rfl rfl (by first | exact IntWalk.i64_in _ (by omega) | exact IntWalk.u8_in _ (by omega) | exact IntWalk.u32_in _ (by omega) | exact IntWalk.u64_in _ (by omega) | rfl)) rfl rfl rfl ?_
      refine S_q (Ent.re [1,2] rfl) rfl (Q_min2 rfl rfl) rfl rfl rfl ?_
      refine S_q (Ent.re [1,2] rfl) rfl (Q_build rfl) rfl rfl rfl ?_
      refine S_s rfl rfl rfl (O_mset (M := mW) 3 x.1 (now + x.2.2, min (2 * x.2.2) 64) rfl rfl rfl rfl ⟨_, fun _ => ⟨Ent.reN [1,2] rfl, Ent.refl _⟩, ?_⟩)
      refine JS.norm ?_
      refine S_nil ?_
      refine blockQ_normal ?_
      refine seqQ_normal ?_
      refine J_region ?_
      refine L_q (Q_add rfl rfl (by first | exact IntWalk.i64_in _ (by omega) | exact IntWalk.u8_in _ (by omega) | exact IntWalk.u32_in _ (by omega) | exact IntWalk.u64_in _ (by omega) | rfl)) rfl rfl rfl ?_
      refine L_q (Q_move rfl) rfl rfl rfl ?_
      refine JL_nil ?_
      refine loopQ_normal (a.length + 1, mset m2 x.1 (now + x.2.2, min (2 * x.2.2) 64), S2) ⟨by simp, ?_⟩ (by simp only; omega) ⟨rfl, rfl, rfl, rfl, rfl, rfl, trivial⟩ ?_
      · simp only [htk, hdk, List.map_append, List.map_cons, List.map_nil, hfx, List.append_assoc, List.cons_append, List.nil_append]
        exact hup
      · simp only [htk, List.filter_append, List.map_append, List.filter_cons, hd, decide_true, if_true, List.filter_nil, List.map_cons, List.map_nil]
        exact Ent.re [2, 3, 4, 5, 6] rfl
    · have hfx : dueF now x = x := by unfold dueF; rw [if_neg hd]
      refine J_region ?_
      refine L_q (Q_fa0 rfl) rfl rfl rfl ?_
      refine L_q (Q_ld 0 rfl rfl rfl rfl) rfl rfl rfl ?_
      refine L_q (Q_move rfl) rfl rfl rfl ?_
      refine L_q ((Q_gtr rfl rfl).as (v' := .bool true) (congrArg Value.bool (decide_eq_true (by omega)))) rfl rfl rfl ?_
      refine JL_nil ?_
      refine seqQ_normal ?_
      refine J_condT rfl ?_
      refine J_exit ?_
      refine seqQ_exit ?_
      refine blockQ_hit ?_
      refine seqQ_normal ?_
      refine J_region ?_
      refine L_q (Q_add rfl rfl (by first | exact IntWalk.i64_in _ (by omega) | exact IntWalk.u8_in _ (by omega) | exact IntWalk.u32_in _ (by omega) | exact IntWalk.u64_in _ (by omega) | rfl)) rfl rfl rfl ?_
      refine L_q (Q_move rfl) rfl rfl rfl ?_
      refine JL_nil ?_
      refine loopQ_normal (a.length + 1, m2, O) ⟨by simp, ?_⟩ (by simp only; omega) ⟨rfl, rfl, rfl, rfl, rfl, rfl, trivial⟩ ?_
      · simp only [htk, hdk, List.map_append, List.map_cons, List.map_nil, hfx, List.append_assoc, List.cons_append, List.nil_append]
        exact hR
      · simp only [htk, List.filter_append, List.map_append, List.filter_cons, hd, decide_false, Bool.false_eq_true, if_false, List.filter_nil, List.map_nil, List.append_nil]
        exact Ent.re [1, 2, 3, 4, 5] rfl
  · obtain rfl : k = l.length := by omega
    rw [List.take_length, List.drop_length, List.append_nil] at hR
    rw [List.take_length]
    refine J_exit ?_
    refine seqQ_exit ?_
    refine loopQ_exit ?_
    refine blockQ_hit ?_
    refine seqQ_normal ?_
    refine J_seq ?_
    refine J_region ?_
    refine L_q (Q_move rfl) rfl rfl rfl ?_
    refine L_q (Q_assign rfl) rfl rfl rfl ?_
    refine JL_nil ?_
    refine seqQ_normal ?_
    refine J_ret ?_
    exact retQ_ret _ [timC p most r, mpC mW r m2, slc tZ true O ((l.filter fun x : Op3 => decide (x.2.1 ≤ now)).map fun x : Op3 => x.1)] (.cons (RV_tmp rfl) .nil) ⟨O, m2, rfl, hR, rfl⟩ (Ent.re [0, 1, 3, 4] rfl)
theorem tacked_ok (E : World) (p most r : Nat) (m l : List Op3) (u : Int) (h : Rel m l) (hl : l.length ≤ 1000) :
    Does Try.prog E 24 [.pointer (some ⟨p, 0, none⟩), .int .i64 u] [timC p most r, mpC mW r m] fun v L => ∃ m' : List Op3, v = .int .i64 ((l.length : Int) - ((ackL l u).length : Int)) ∧ Rel m' (ackL l u) ∧ L = [timC p most r, mpC mW r m'] := by
  have hop := topen_ok E p most r m l h hl
  have hkl : (l.map fun x : Op3 => x.1).length = l.length := by simp
  refine Does.of Try.func24 rfl Try.ntmps24 rfl rfl fun F => ?_
  refine J.norm ?_
  refine J_seq ?_
  refine J_region ?_
  refine L_q (Q_assign rfl) rfl rfl rfl ?_
  refine JL_nil ?_
  refine seqQ_normal ?_
  refine J_seq ?_
  refine J_region ?_
  refine L_q (Q_assign rfl) rfl rfl rfl ?_
  refine JL_nil ?_
  refine seqQ_normal ?_
  refine J_seq ?_
  refine J_seq ?_
  refine J_region ?_
  refine L_q (Q_move rfl) rfl rfl rfl ?_
  refine L_o rfl rfl rfl (O_call [0,1] [2] hop rfl rfl ?_)
  rintro _ _ ⟨S, rfl, rfl⟩
  refine JL.norm ?_
  refine L_q (Q_lenAt 2 rfl rfl) rfl rfl rfl ?_
  refine L_q (Q_move rfl) rfl rfl rfl ?_
  refine JL_nil ?_
  refine seqQ_normal ?_
  refine J_block ?_
  refine J_loop (fun i : Nat × List Op3 => i.1 ≤ l.length ∧ Rel i.2 (ackL (l.take i.1) u ++ l.drop i.1)) (fun i => [(0, .pointer (some ⟨p, 0, none⟩)), (1, .int .i64 u), (5, .int .i64 ((i.1 : Int) - ((ackL (l.take i.1) u).length : Int))), (9, S.v), (10, .int .i64 (l.length : Int)), (11, .int .i64 (i.1 : Int))])
    (fun i => [timC p most r, mpC mW r i.2, slc tZ true S (l.map fun x : Op3 => x.1), F]) (fun i => l.length - i.1) (0, m) ⟨by simp, by simpa [ackL] using h⟩ ⟨rfl, rfl, rfl, rfl, by rw [← hkl]; rfl, rfl, trivial⟩ (Ent.refl _) ?_
  rintro ⟨k, m2⟩ ⟨hk, hR⟩
  dsimp only at hk hR ⊢
  refine J_seq ?_
  refine J_region ?_
  refine L_q (Q_lss rfl rfl) rfl rfl rfl ?_
  refine JL_nil ?_
  refine seqQ_normal ?_
  refine J_seq ?_
  refine J_condD rfl (fun h3 => ?_) (fun h3 => ?_)
  · have hlt : k < l.length := by omega
    obtain ⟨a, x, b, rfl, rfl⟩ := split_at l k hlt
    rw [List.take_left, List.drop_left] at hR
    rw [List.take_left]
    have htk : (a ++ x :: b).take (a.length + 1) = a ++ [x] := by
      rw [List.take_append, List.take_of_length_le (by omega)]; simp
    have hdk : (a ++ x :: b).drop (a.length + 1) = b := by
      rw [List.drop_append]; simp
    have hltk : a.length < ((a ++ x :: b).map fun x : Op3 => x.1).length := by rw [List.length_map]; exact hlt
    have hgk : ((a ++ x :: b).map fun x : Op3 => x.1)[a.length] = x.1 := by simp
    have hal : (ackL a u).length ≤ a.length := List.length_filter_le _ _
    have has : ackL (a ++ [x]) u = ackL a u ++ ackL [x] u := by simp [ackL]
    refine J_skip ?_
    refine seqQ_normal ?_
    refine J_seq ?_
    refine J_block ?_
    refine J_seq ?_
    refine J_region ?_
    refine L_q (Q_ixAt 2 a.length rfl rfl rfl rfl hltk rfl) rfl rfl rfl ?_
    refine L_q (Q_ldEAt 2 a.length 0 (v := .int .i64 x.1) rfl rfl rfl rfl hltk (by decide) (by rw [hgk]; rfl)) rfl rfl rfl ?_
    refine L_q (Q_assign rfl) rfl rfl rfl ?_
    refine JL_nil ?_
    refine seqQ_normal ?_
    refine J_seq ?_
    by_cases hd : x.1 < u
    · have hax : ackL [x] u = [] := by simp [ackL]; omega
      refine J_region ?_
      refine L_q (Q_move rfl) rfl rfl rfl ?_
      refine L_q (Q_move rfl) rfl rfl rfl ?_
      refine L_q ((Q_lss rfl rfl).as (v' := .bool true) (congrArg Value.bool (decide_eq_true hd))) rfl rfl rfl ?_
      refine JL_nil ?_
      refine seqQ_normal ?_
      refine J_condT rfl ?_
      refine J_seq ?_
      refine J_region ?_
      refine L_q (Q_move rfl) rfl rfl rfl ?_
      refine L_q (Q_nilCheck rfl) rfl rfl rfl ?_
      refine L_q (Q_fa0 rfl) rfl rfl rfl ?_
      refine L_q (Q_ld 0 rfl rfl rfl rfl) rfl rfl rfl ?_
      refine L_q (Q_move rfl) rfl rfl rfl ?_
      refine L_s rfl rfl (O_mdel (M := mW) 1 x.1 rfl rfl rfl ?_)
      refine JL.norm ?_
      refine JL_nil ?_
      refine seqQ_normal ?_
      refine J_region ?_
      refine L_q (Q_move rfl) rfl rfl rfl ?_
      refine L_q (Q_add rfl rfl (by first | exact IntWalk.i64_in _ (by omega) | exact IntWalk.u8_in _ (by omega) | exact IntWalk.u32_in _ (by omega) | exact IntWalk.u64_in _ (by omega) | rfl)) rfl rfl rfl ?_
      refine L_q (Q_assign rfl) rfl rfl rfl ?_
      refine JL_nil ?_
      refine blockQ_normal ?_
      refine seqQ_normal ?_
      refine J_region ?_
      refine L_q (Q_add rfl rfl (by first | exact IntWalk.i64_in _ (by omega) | exact IntWalk.u8_in _ (by omega) | exact IntWalk.u32_in _ (by omega) | exact IntWalk.u64_in _ (by omega) | rfl)) rfl rfl rfl ?_
      refine L_q (Q_move rfl) rfl rfl rfl ?_
      refine JL_nil ?_
      refine loopQ_normal (a.length + 1, mdel m2 x.1) ⟨by simp, ?_⟩ (by simp only; omega) ⟨rfl, rfl, ?_, rfl, rfl, rfl, trivial⟩ (Ent.refl _)
      · simp only [htk, hdk, has, hax, List.append_nil]; exact hR.del
      · simp only [htk, has, hax, List.append_nil]
        exact congrArg (fun z => some (Value.int .i64 z)) (by omega)
    · have hax : ackL [x] u = [x] := by simp [ackL]; omega
      refine J_region ?_
      refine L_q (Q_move rfl) rfl rfl rfl ?_
      refine L_q (Q_move rfl) rfl rfl rfl ?_
      refine L_q ((Q_lss rfl rfl).as (v' := .bool false) (congrArg Value.bool (decide_eq_false hd))) rfl rfl rfl ?_
      refine JL_nil ?_
      refine seqQ_normal ?_
      refine J_condF rfl ?_
      refine J_skip ?_
      refine blockQ_normal ?_
      refine seqQ_normal ?_
      refine J_region ?_
      refine L_q (Q_add rfl rfl (by first | exact IntWalk.i64_in _ (by omega) | exact IntWalk.u8_in _ (by omega) | exact IntWalk.u32_in _ (by omega) | exact IntWalk.u64_in _ (by omega) | rfl)) rfl rfl rfl ?_
      refine L_q (Q_move rfl) rfl rfl rfl ?_
      refine JL_nil ?_
      refine loopQ_normal (a.length + 1, m2) ⟨by simp, ?_⟩ (by simp only; omega) ⟨rfl, rfl, ?_, rfl, rfl, rfl, trivial⟩ (Ent.refl _)
      · simp only [htk, hdk, has, hax, List.append_assoc, List.cons_append, List.nil_append]; exact hR
      · simp only [htk, has, hax, List.length_append, List.length_singleton]
        exact congrArg (fun z => some (Value.int .i64 z)) (by omega)
  · obtain rfl : k = l.length := by omega
    rw [List.take_length, List.drop_length, List.append_nil] at hR
    rw [List.take_length]
    refine J_exit ?_
    refine seqQ_exit ?_
    refine loopQ_exit ?_
    refine blockQ_hit ?_
    refine seqQ_normal ?_
    refine J_seq ?_
    refine J_region ?_
    refine L_q (Q_move rfl) rfl rfl rfl ?_
    refine L_q (Q_assign rfl) rfl rfl rfl ?_
    refine JL_nil ?_
    refine seqQ_normal ?_
    refine J_ret ?_
    exact retQ_ret _ [timC p most r, mpC mW r m2] (.cons (RV_tmp rfl) .nil) ⟨m2, rfl, hR, rfl⟩ (Ent.re [0, 1, 3] rfl)
end Go.Proofs
