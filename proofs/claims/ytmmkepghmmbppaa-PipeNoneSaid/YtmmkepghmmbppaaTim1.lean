/- A timer, walked. -/
import Derived.Test.YtmmkepghmmbppaaTimP
set_option autoImplicit false
namespace Go.Proofs
open Go.SL
abbrev timC (p most r : Nat) : HProp := cel p [.int .i64 (most : Int), .map (some r)] 73
attribute [local irreducible] J JL QOp JOp seqQ blockQ loopQ retQ slc cel hex star pur stars Does RV Ent pAt scopeQ
attribute [local irreducible] mpC
theorem moment_ok (E : World) (z : Int) : Does Try.prog E 31 [.int .i64 z] [] fun v L => v = .bool (moment z) ∧ L = [] := by
  refine Does.of Try.func31 rfl Try.ntmps31 rfl rfl fun F => ?_
  refine J.norm ?_
  refine J_seq ?_
  refine J_region ?_
  refine L_q (Q_assign rfl) rfl rfl rfl ?_
  refine JL_nil ?_
  refine seqQ_normal ?_
  refine J_seq ?_
  by_cases h0 : 0 ≤ z
  · skip
    refine J_region ?_
    refine L_q (Q_move rfl) rfl rfl rfl ?_
    refine L_q ((Q_geq rfl rfl).as (v' := .bool true) (congrArg Value.bool (decide_eq_true h0))) rfl rfl rfl ?_
    refine L_q (Q_move rfl) rfl rfl rfl ?_
    refine L_q (Q_move rfl) rfl rfl rfl ?_
    refine L_q ((Q_leq rfl rfl).as (v' := .bool (moment z)) (congrArg Value.bool (by simp [moment, h0]))) rfl rfl rfl ?_
    refine L_q (Q_pickT rfl rfl) rfl rfl rfl ?_
    refine L_q (Q_assign rfl) rfl rfl rfl ?_
    refine JL_nil ?_
    refine seqQ_normal ?_
    refine J_ret ?_
    exact retQ_ret _ [] (.cons (RV_tmp rfl) .nil) ⟨rfl, rfl⟩ (Ent.refl _)
  · rw [show moment z = false by simp [moment, h0]]
    refine J_region ?_
    refine L_q (Q_move rfl) rfl rfl rfl ?_
    refine L_q ((Q_geq rfl rfl).as (v' := .bool false) (congrArg Value.bool (decide_eq_false h0))) rfl rfl rfl ?_
    refine L_q (Q_move rfl) rfl rfl rfl ?_
    refine L_n rfl rfl rfl ?_
    refine L_n rfl rfl rfl ?_
    refine L_q (Q_pickF rfl rfl) rfl rfl rfl ?_
    refine L_q (Q_assign rfl) rfl rfl rfl ?_
    refine JL_nil ?_
    refine seqQ_normal ?_
    refine J_ret ?_
    exact retQ_ret _ [] (.cons (RV_tmp rfl) .nil) ⟨rfl, rfl⟩ (Ent.refl _)
theorem tnew_ok (E : World) (z : Int) : Does Try.prog E 17 [.int .i64 z] [] fun v L => ∃ p r : Nat, v = .pointer (some ⟨p, 0, none⟩) ∧ L = [timC p (winSize z) r, mpC mW r []] := by
  refine Does.of Try.func17 rfl Try.ntmps17 rfl rfl fun F => ?_
  refine J.norm ?_
  refine J_seq ?_
  refine J_region ?_
  refine L_q (Q_assign rfl) rfl rfl rfl ?_
  refine JL_nil ?_
  refine seqQ_normal ?_
  refine J_seq ?_
  refine J_region ?_
  refine L_q (Q_move rfl) rfl rfl rfl ?_
  refine L_o rfl rfl rfl (O_call [] [0] (wsize_ok E z) rfl rfl ?_)
  rintro _ _ ⟨rfl, rfl⟩
  refine JL.norm ?_
  refine L_o rfl rfl rfl (O_mnew mW (fun r => ?_))
  refine JL.norm ?_
  refine L_q (Q_build rfl) rfl rfl rfl ?_
  refine L_o rfl rfl rfl (O_box rfl fun b7 => ?_)
  refine L_q (Q_assign rfl) rfl rfl rfl ?_
  refine JL_nil ?_
  refine seqQ_normal ?_
  refine J_ret ?_
  exact retQ_ret _ [timC b7 (winSize z) r, mpC mW r []] (.cons (RV_tmp rfl) .nil) ⟨b7, r, rfl, rfl⟩ (Ent.refl _)
theorem topen_ok (E : World) (p most r : Nat) (m l : List Op3) (h : Rel m l) (hl : l.length ≤ 1000) : Does Try.prog E 32 [.pointer (some ⟨p, 0, none⟩)] [timC p most r, mpC mW r m] fun v L => ∃ S : SV, v = S.v ∧ L = [timC p most r, mpC mW r m, slc tZ true S (l.map (·.1))] := by
  have hml := h.len
  have hs := fun b => sorted_ok E b r m h.nd (by omega) h.keys
  rw [h.openS] at hs
  refine Does.of Try.func32 rfl Try.ntmps32 rfl rfl fun F => ?_
  refine J.norm ?_
  refine J_seq ?_
  refine J_region ?_
  refine L_q (Q_assign rfl) rfl rfl rfl ?_
  refine JL_nil ?_
  refine seqQ_normal ?_
  refine J_seq ?_
  refine J_seq ?_
  refine J_region ?_
  refine L_q (Q_move rfl) rfl rfl rfl ?_
  refine L_q ((Q_peql rfl rfl).as (v' := .bool false) rfl) rfl rfl rfl ?_
  refine JL_nil ?_
  refine seqQ_normal ?_
  refine J_condF rfl ?_
  refine J_skip ?_
  refine seqQ_normal ?_
  refine J_seq ?_
  refine J_region ?_
  refine L_q (Q_move rfl) rfl rfl rfl ?_
  refine L_q (Q_nilCheck rfl) rfl rfl rfl ?_
  refine L_q (Q_fa0 rfl) rfl rfl rfl ?_
  refine L_q (Q_ld 0 rfl rfl rfl rfl) rfl rfl rfl ?_
  refine L_o rfl rfl rfl (O_call [] [0,1,2] (keys_ok E r) rfl rfl ?_)
  rintro _ _ ⟨b, rfl, rfl⟩
  refine JL.norm ?_
  refine L_o rfl rfl rfl (O_call [0,2] [1,3] (hs b) rfl rfl ?_)
  rintro _ _ ⟨S, rfl, rfl⟩
  refine JL.norm ?_
  refine L_q (Q_assign rfl) rfl rfl rfl ?_
  refine JL_nil ?_
  refine seqQ_normal ?_
  refine J_ret ?_
  exact retQ_ret _ [timC p most r, mpC mW r m, slc tZ true S (l.map (fun x : Op3 => x.1))] (.cons (RV_tmp rfl) .nil) ⟨S, rfl, rfl⟩ (Ent.re [3, 1, 2, 4] rfl)
theorem tsent_ok (E : World) (p most r : Nat) (m l : List Op3) (s now : Int) (h : Rel m l) (hl : l.length ≤ 1000) (hm : most ≤ 64) (hs2 : s ≤ 9223372036854775807) :
    Does Try.prog E 20 [.pointer (some ⟨p, 0, none⟩), .int .i64 s, .int .i64 now] [timC p most r, mpC mW r m] fun v L => ∃ m' : List Op3, v = .bool (sentB most l s now) ∧ Rel m' (sentL most l s now) ∧ L = [timC p most r, mpC mW r m'] := by
  have hml := h.len
  have hmo := moment_ok E now
  refine Does.of Try.func20 rfl Try.ntmps20 rfl rfl fun F => ?_
  refine J.norm ?_
  refine J_seq ?_
  refine J_region ?_
  refine L_q (Q_assign rfl) rfl rfl rfl ?_
  refine JL_nil ?_
  refine seqQ_normal ?_
  refine J_seq ?_
  refine J_seq ?_
  by_cases h0 : s < 0
  · have hb : sentB most l s now = false := by simp [sentB, show ¬ 0 ≤ s by omega]
    have hL : sentL most l s now = l := by unfold sentL; rw [hb]; rfl
    rw [hb, hL]
    refine J_drawH [0,1] [0, 1, 2, 3, 4, 5, 6, 7, 9, 10, 11, 12, 13, 14, 15, 16, 17, 18, 19, 20, 21, 22] (.quiet 0 (.quiet 1 (.quiet 2 (.quiet 3 (.quiet 4 (.quiet 5 (.quiet 6 (.quiet 7 (.loud 8 (.quiet 9 (.quiet 10 (.quiet 11 (.quiet 12 (.quiet 13 (.quiet 14 (.quiet 15 (.quiet 16 (.quiet 17 (.quiet 18 (.quiet 19 (.quiet 20 (.quiet 21 (.quiet 22 .done))))))))))))))))))))))) Try.mixed (by kernel_rfl) (by kernel_rfl) (by repeat (first | exact retQ_noP | refine seqQ_noP ?_ | refine blockQ_noP ?_ | refine loopQ_noP ?_ | refine scopeQ_noP ?_ | (intro _ _ _ h; cases h.1))) ?_
    refine S_q (Ent.re [0,1] rfl) rfl (Q_move rfl) rfl rfl rfl ?_
    refine S_q (Ent.re [0,1] rfl) rfl ((Q_peql rfl rfl).as (v' := .bool false) rfl) rfl rfl rfl ?_
    refine S_q (Ent.re [0,1] rfl) rfl (Q_move rfl) rfl rfl rfl ?_
    refine S_q (Ent.re [0,1] rfl) rfl (Q_move rfl) rfl rfl rfl ?_
    refine S_q (Ent.re [0,1] rfl) rfl ((Q_lss rfl rfl).as (v' := .bool true) (congrArg Value.bool (decide_eq_true h0))) rfl rfl rfl ?_
    refine S_q (Ent.re [0,1] rfl) rfl (Q_pickF rfl rfl) rfl rfl rfl ?_
    refine S_q (Ent.re [0,1] rfl) rfl (Q_move rfl) rfl rfl rfl ?_
    refine S_n (Ent.re [0,1] rfl) rfl rfl rfl rfl ?_
    refine S_no rfl rfl rfl rfl (fun _ => (Ent.re [0,1] rfl)) ?_
    refine S_n (Ent.re [0,1] rfl) rfl rfl rfl rfl ?_
    refine S_q (Ent.re [0,1] rfl) rfl (Q_pickT rfl rfl) rfl rfl rfl ?_
    refine S_q (Ent.re [0,1] rfl) rfl (Q_move rfl) rfl rfl rfl ?_
    refine S_n (Ent.re [0,1] rfl) rfl rfl rfl rfl ?_
    refine S_n (Ent.re [0,1] rfl) rfl rfl rfl rfl ?_
    refine S_n (Ent.re [0,1] rfl) rfl rfl rfl rfl ?_
    refine S_n (Ent.re [0,1] rfl) rfl rfl rfl rfl ?_
    refine S_n (Ent.re [0,1] rfl) rfl rfl rfl rfl ?_
    refine S_n (Ent.re [0,1] rfl) rfl rfl rfl rfl ?_
    refine S_n (Ent.re [0,1] rfl) rfl rfl rfl rfl ?_
    refine S_n (Ent.re [0,1] rfl) rfl rfl rfl rfl ?_
    refine S_n (Ent.re [0,1] rfl) rfl rfl rfl rfl ?_
    refine S_n (Ent.re [0,1] rfl) rfl rfl rfl rfl ?_
    refine S_q (Ent.re [0,1] rfl) rfl (Q_pickT rfl rfl) rfl rfl rfl ?_
    refine S_nil ?_
    refine seqQ_normal ?_
    refine J_condT rfl ?_
    refine J_seq ?_
    refine J_region ?_
    refine L_q (Q_assign rfl) rfl rfl rfl ?_
    refine JL_nil ?_
    refine seqQ_normal ?_
    refine J_ret ?_
    refine seqQ_ret ?_
    exact retQ_ret _ [timC p most r, mpC mW r m] (.cons (RV_tmp rfl) .nil) ⟨m, rfl, h, rfl⟩ (Ent.refl _)
  cases hq : moment now with
  | false =>
    rw [hq] at hmo
    have hb : sentB most l s now = false := by simp [sentB, hq]
    have hL : sentL most l s now = l := by unfold sentL; rw [hb]; rfl
    rw [hb, hL]
    refine J_drawH [0,1] [0, 1, 2, 3, 4, 5, 6, 7, 9, 10, 11, 12, 13, 14, 15, 16, 17, 18, 19, 20, 21, 22] (.quiet 0 (.quiet 1 (.quiet 2 (.quiet 3 (.quiet 4 (.quiet 5 (.quiet 6 (.quiet 7 (.loud 8 (.quiet 9 (.quiet 10 (.quiet 11 (.quiet 12 (.quiet 13 (.quiet 14 (.quiet 15 (.quiet 16 (.quiet 17 (.quiet 18 (.quiet 19 (.quiet 20 (.quiet 21 (.quiet 22 .done))))))))))))))))))))))) Try.mixed (by kernel_rfl) (by kernel_rfl) (by repeat (first | exact retQ_noP | refine seqQ_noP ?_ | refine blockQ_noP ?_ | refine loopQ_noP ?_ | refine scopeQ_noP ?_ | (intro _ _ _ h; cases h.1))) ?_
    refine S_q (Ent.re [0,1] rfl) rfl (Q_move rfl) rfl rfl rfl ?_
    refine S_q (Ent.re [0,1] rfl) rfl ((Q_peql rfl rfl).as (v' := .bool false) rfl) rfl rfl rfl ?_
    refine S_q (Ent.re [0,1] rfl) rfl (Q_move rfl) rfl rfl rfl ?_
    refine S_q (Ent.re [0,1] rfl) rfl (Q_move rfl) rfl rfl rfl ?_
    refine S_q (Ent.re [0,1] rfl) rfl ((Q_lss rfl rfl).as (v' := .bool false) (congrArg Value.bool (decide_eq_false h0))) rfl rfl rfl ?_
    refine S_q (Ent.re [0,1] rfl) rfl (Q_pickF rfl rfl) rfl rfl rfl ?_
    refine S_q (Ent.re [0,1] rfl) rfl (Q_move rfl) rfl rfl rfl ?_
    refine S_q (Ent.re [0,1] rfl) rfl (Q_move rfl) rfl rfl rfl ?_
    refine S_o rfl rfl rfl rfl (O_call [] [0,1,2] hmo rfl rfl ?_)
    (rintro _ _ ⟨rfl, rfl⟩; refine ⟨_, fun _ => ⟨Ent.reN [0,1] rfl, Ent.refl _⟩, ?_⟩)
    refine JS.norm ?_
    refine S_q (Ent.re [0,1] rfl) rfl (Q_not rfl) rfl rfl rfl ?_
    refine S_q (Ent.re [0,1] rfl) rfl (Q_pickF rfl rfl) rfl rfl rfl ?_
    refine S_q (Ent.re [0,1] rfl) rfl (Q_move rfl) rfl rfl rfl ?_
    refine S_n (Ent.re [0,1] rfl) rfl rfl rfl rfl ?_
    refine S_n (Ent.re [0,1] rfl) rfl rfl rfl rfl ?_
    refine S_n (Ent.re [0,1] rfl) rfl rfl rfl rfl ?_
    refine S_n (Ent.re [0,1] rfl) rfl rfl rfl rfl ?_
    refine S_n (Ent.re [0,1] rfl) rfl rfl rfl rfl ?_
    refine S_n (Ent.re [0,1] rfl) rfl rfl rfl rfl ?_
    refine S_n (Ent.re [0,1] rfl) rfl rfl rfl rfl ?_
    refine S_n (Ent.re [0,1] rfl) rfl rfl rfl rfl ?_
    refine S_n (Ent.re [0,1] rfl) rfl rfl rfl rfl ?_
    refine S_n (Ent.re [0,1] rfl) rfl rfl rfl rfl ?_
    refine S_q (Ent.re [0,1] rfl) rfl (Q_pickT rfl rfl) rfl rfl rfl ?_
    refine S_nil ?_
    refine seqQ_normal ?_
    refine J_condT rfl ?_
    refine J_seq ?_
    refine J_region ?_
    refine L_q (Q_assign rfl) rfl rfl rfl ?_
    refine JL_nil ?_
    refine seqQ_normal ?_
    refine J_ret ?_
    refine seqQ_ret ?_
    exact retQ_ret _ [timC p most r, mpC mW r m] (.cons (RV_tmp rfl) .nil) ⟨m, rfl, h, rfl⟩ (Ent.refl _)
  | true =>
  rw [hq] at hmo
  by_cases h1 : most ≤ l.length
  · have hb : sentB most l s now = false := by simp [sentB, show ¬ l.length < most by omega]
    have hL : sentL most l s now = l := by unfold sentL; rw [hb]; rfl
    rw [hb, hL]
    refine J_drawH [0,1] [0, 1, 2, 3, 4, 5, 6, 7, 9, 10, 11, 12, 13, 14, 15, 16, 17, 18, 19, 20, 21, 22] (.quiet 0 (.quiet 1 (.quiet 2 (.quiet 3 (.quiet 4 (.quiet 5 (.quiet 6 (.quiet 7 (.loud 8 (.quiet 9 (.quiet 10 (.quiet 11 (.quiet 12 (.quiet 13 (.quiet 14 (.quiet 15 (.quiet 16 (.quiet 17 (.quiet 18 (.quiet 19 (.quiet 20 (.quiet 21 (.quiet 22 .done))))))))))))))))))))))) Try.mixed (by kernel_rfl) (by kernel_rfl) (by repeat (first | exact retQ_noP | refine seqQ_noP ?_ | refine blockQ_noP ?_ | refine loopQ_noP ?_ | refine scopeQ_noP ?_ | (intro _ _ _ h; cases h.1))) ?_
    refine S_q (Ent.re [0,1] rfl) rfl (Q_move rfl) rfl rfl rfl ?_
    refine S_q (Ent.re [0,1] rfl) rfl ((Q_peql rfl rfl).as (v' := .bool false) rfl) rfl rfl rfl ?_
    refine S_q (Ent.re [0,1] rfl) rfl (Q_move rfl) rfl rfl rfl ?_
    refine S_q (Ent.re [0,1] rfl) rfl (Q_move rfl) rfl rfl rfl ?_
    refine S_q (Ent.re [0,1] rfl) rfl ((Q_lss rfl rfl).as (v' := .bool false) (congrArg Value.bool (decide_eq_false h0))) rfl rfl rfl ?_
    refine S_q (Ent.re [0,1] rfl) rfl (Q_pickF rfl rfl) rfl rfl rfl ?_
    refine S_q (Ent.re [0,1] rfl) rfl (Q_move rfl) rfl rfl rfl ?_
    refine S_q (Ent.re [0,1] rfl) rfl (Q_move rfl) rfl rfl rfl ?_
    refine S_o rfl rfl rfl rfl (O_call [] [0,1,2] hmo rfl rfl ?_)
    (rintro _ _ ⟨rfl, rfl⟩; refine ⟨_, fun _ => ⟨Ent.reN [0,1] rfl, Ent.refl _⟩, ?_⟩)
    refine JS.norm ?_
    refine S_q (Ent.re [0,1] rfl) rfl (Q_not rfl) rfl rfl rfl ?_
    refine S_q (Ent.re [0,1] rfl) rfl (Q_pickF rfl rfl) rfl rfl rfl ?_
    refine S_q (Ent.re [0,1] rfl) rfl (Q_move rfl) rfl rfl rfl ?_
    refine S_q (Ent.re [0,1] rfl) rfl (Q_move rfl) rfl rfl rfl ?_
    refine S_q (Ent.re [0,1] rfl) rfl (Q_nilCheck rfl) rfl rfl rfl ?_
    refine S_q (Ent.re [0,1] rfl) rfl (Q_fa0 rfl) rfl rfl rfl ?_
    refine S_q (Ent.re [0,1] rfl) rfl (Q_ld 0 rfl rfl rfl rfl) rfl rfl rfl ?_
    refine S_q (Ent.re [0,1] rfl) rfl (Q_mlen (M := mW) 1 rfl rfl) rfl rfl rfl ?_
    refine S_q (Ent.re [0,1] rfl) rfl (Q_move rfl) rfl rfl rfl ?_
    refine S_q (Ent.re [0,1] rfl) rfl (Q_nilCheck rfl) rfl rfl rfl ?_
    refine S_q (Ent.re [0,1] rfl) rfl (Q_fa0 rfl) rfl rfl rfl ?_
    refine S_q (Ent.re [0,1] rfl) rfl (Q_ld 0 rfl rfl rfl rfl) rfl rfl rfl ?_
    refine S_q (Ent.re [0,1] rfl) rfl ((Q_geq rfl rfl).as (v' := .bool true) (congrArg Value.bool (decide_eq_true (by omega)))) rfl rfl rfl ?_
    refine S_q (Ent.re [0,1] rfl) rfl (Q_pickF rfl rfl) rfl rfl rfl ?_
    refine S_nil ?_
    refine seqQ_normal ?_
    refine J_condT rfl ?_
    refine J_seq ?_
    refine J_region ?_
    refine L_q (Q_assign rfl) rfl rfl rfl ?_
    refine JL_nil ?_
    refine seqQ_normal ?_
    refine J_ret ?_
    refine seqQ_ret ?_
    exact retQ_ret _ [timC p most r, mpC mW r m] (.cons (RV_tmp rfl) .nil) ⟨m, rfl, h, rfl⟩ (Ent.refl _)
  refine J_drawH [0,1] [0, 1, 2, 3, 4, 5, 6, 7, 9, 10, 11, 12, 13, 14, 15, 16, 17, 18, 19, 20, 21, 22] (.quiet 0 (.quiet 1 (.quiet 2 (.quiet 3 (.quiet 4 (.quiet 5 (.quiet 6 (.quiet 7 (.loud 8 (.quiet 9 (.quiet 10 (.quiet 11 (.quiet 12 (.quiet 13 (.quiet 14 (.quiet 15 (.quiet 16 (.quiet 17 (.quiet 18 (.quiet 19 (.quiet 20 (.quiet 21 (.quiet 22 .done))))))))))))))))))))))) Try.mixed (by kernel_rfl) (by kernel_rfl) (by repeat (first | exact retQ_noP | refine seqQ_noP ?_ | refine blockQ_noP ?_ | refine loopQ_noP ?_ | refine scopeQ_noP ?_ | (intro _ _ _ h; cases h.1))) ?_
  refine S_q (Ent.re [0,1] rfl) rfl (Q_move rfl) rfl rfl rfl ?_
  refine S_q (Ent.re [0,1] rfl) rfl ((Q_peql rfl rfl).as (v' := .bool false) rfl) rfl rfl rfl ?_
  refine S_q (Ent.re [0,1] rfl) rfl (Q_move rfl) rfl rfl rfl ?_
  refine S_q (Ent.re [0,1] rfl) rfl (Q_move rfl) rfl rfl rfl ?_
  refine S_q (Ent.re [0,1] rfl) rfl ((Q_lss rfl rfl).as (v' := .bool false) (congrArg Value.bool (decide_eq_false h0))) rfl rfl rfl ?_
  refine S_q (Ent.re [0,1] rfl) rfl (Q_pickF rfl rfl) rfl rfl rfl ?_
  refine S_q (Ent.re [0,1] rfl) rfl (Q_move rfl) rfl rfl rfl ?_
  refine S_q (Ent.re [0,1] rfl) rfl (Q_move rfl) rfl rfl rfl ?_
  refine S_o rfl rfl rfl rfl (O_call [] [0,1,2] hmo rfl rfl ?_)
  (rintro _ _ ⟨rfl, rfl⟩; refine ⟨_, fun _ => ⟨Ent.reN [0,1] rfl, Ent.refl _⟩, ?_⟩)
  refine JS.norm ?_
  refine S_q (Ent.re [0,1] rfl) rfl (Q_not rfl) rfl rfl rfl ?_
  refine S_q (Ent.re [0,1] rfl) rfl (Q_pickF rfl rfl) rfl rfl rfl ?_
  refine S_q (Ent.re [0,1] rfl) rfl (Q_move rfl) rfl rfl rfl ?_
  refine S_q (Ent.re [0,1] rfl) rfl (Q_move rfl) rfl rfl rfl ?_
  refine S_q (Ent.re [0,1] rfl) rfl (Q_nilCheck rfl) rfl rfl rfl ?_
  refine S_q (Ent.re [0,1] rfl) rfl (Q_fa0 rfl) rfl rfl rfl ?_
  refine S_q (Ent.re [0,1] rfl) rfl (Q_ld 0 rfl rfl rfl rfl) rfl rfl rfl ?_
  refine S_q (Ent.re [0,1] rfl) rfl (Q_mlen (M := mW) 1 rfl rfl) rfl rfl rfl ?_
  refine S_q (Ent.re [0,1] rfl) rfl (Q_move rfl) rfl rfl rfl ?_
  refine S_q (Ent.re [0,1] rfl) rfl (Q_nilCheck rfl) rfl rfl rfl ?_
  refine S_q (Ent.re [0,1] rfl) rfl (Q_fa0 rfl) rfl rfl rfl ?_
  refine S_q (Ent.re [0,1] rfl) rfl (Q_ld 0 rfl rfl rfl rfl) rfl rfl rfl ?_
  refine S_q (Ent.re [0,1] rfl) rfl ((Q_geq rfl rfl).as (v' := .bool false) (congrArg Value.bool (decide_eq_false (by omega)))) rfl rfl rfl ?_
  refine S_q (Ent.re [0,1] rfl) rfl (Q_pickF rfl rfl) rfl rfl rfl ?_
  refine S_nil ?_
  refine seqQ_normal ?_
  refine J_condF rfl ?_
  refine J_skip ?_
  refine seqQ_normal ?_
  refine J_seq ?_
  refine J_seq ?_
  have hgm := h.at' s
  cases hg : mget l s with
  | some x =>
    rw [hg] at hgm
    have hb : sentB most l s now = false := by simp [sentB, hg]
    have hL : sentL most l s now = l := by unfold sentL; rw [hb]; rfl
    rw [hb, hL]
    refine J_region ?_
    refine L_q (Q_move rfl) rfl rfl rfl ?_
    refine L_q (Q_nilCheck rfl) rfl rfl rfl ?_
    refine L_q (Q_fa0 rfl) rfl rfl rfl ?_
    refine L_q (Q_ld 0 rfl rfl rfl rfl) rfl rfl rfl ?_
    refine L_q (Q_move rfl) rfl rfl rfl ?_
    refine L_q ((Q_mgetOk (M := mW) 1 s rfl rfl rfl).as (v' := .tuple #[.agg #[.int .i64 x.1, .int .i64 x.2], .bool true]) (by rw [hgm]; rfl)) rfl rfl rfl ?_
    refine L_q (Q_move rfl) rfl rfl rfl ?_
    refine L_q (Q_extract (v := .agg #[.int .i64 x.1, .int .i64 x.2]) rfl rfl) rfl rfl rfl ?_
    refine L_q (Q_extract (v := .bool true) rfl rfl) rfl rfl rfl ?_
    refine L_o rfl rfl rfl (O_alloc fun b7 => ?_)
    refine L_s rfl rfl (O_stW 0 rfl rfl rfl rfl ?_)
    refine JL.norm ?_
    refine L_q (Q_assign rfl) rfl rfl rfl ?_
    refine JL_nil ?_
    refine seqQ_normal ?_
    refine J_seq ?_
    refine J_region ?_
    refine L_q (Q_move rfl) rfl rfl rfl ?_
    refine JL_nil ?_
    refine seqQ_normal ?_
    refine J_condT rfl ?_
    refine J_seq ?_
    refine J_region ?_
    refine L_q (Q_assign rfl) rfl rfl rfl ?_
    refine JL_nil ?_
    refine seqQ_normal ?_
    refine J_ret ?_
    refine seqQ_ret ?_
    exact retQ_ret _ [timC p most r, mpC mW r m] (.cons (RV_tmp rfl) .nil) ⟨m, rfl, h, rfl⟩ (Ent.re [1, 2, 3] rfl)
  | none =>
    rw [hg] at hgm
    have hb : sentB most l s now = true := by simp [sentB, hg, hq, show 0 ≤ s by omega]; omega
    have hL : sentL most l s now = insT l s (now + 4, 8) := by unfold sentL; rw [hb]; rfl
    have hmm : 0 ≤ now ∧ now ≤ 1099511627776 := by simpa [moment] using hq
    rw [hb, hL]
    refine J_region ?_
    refine L_q (Q_move rfl) rfl rfl rfl ?_
    refine L_q (Q_nilCheck rfl) rfl rfl rfl ?_
    refine L_q (Q_fa0 rfl) rfl rfl rfl ?_
    refine L_q (Q_ld 0 rfl rfl rfl rfl) rfl rfl rfl ?_
    refine L_q (Q_move rfl) rfl rfl rfl ?_
    refine L_q ((Q_mgetOk (M := mW) 1 s rfl rfl rfl).as (v' := .tuple #[.agg #[.int .i64 0, .int .i64 0], .bool false]) (by rw [hgm]; rfl)) rfl rfl rfl ?_
    refine L_q (Q_move rfl) rfl rfl rfl ?_
    refine L_q (Q_extract (v := .agg #[.int .i64 0, .int .i64 0]) rfl rfl) rfl rfl rfl ?_
    refine L_q (Q_extract (v := .bool false) rfl rfl) rfl rfl rfl ?_
    refine L_o rfl rfl rfl (O_alloc fun b7 => ?_)
    refine L_s rfl rfl (O_stW 0 rfl rfl rfl rfl ?_)
    refine JL.norm ?_
    refine L_q (Q_assign rfl) rfl rfl rfl ?_
    refine JL_nil ?_
    refine seqQ_normal ?_
    refine J_seq ?_
    refine J_region ?_
    refine L_q (Q_move rfl) rfl rfl rfl ?_
    refine JL_nil ?_
    refine seqQ_normal ?_
    refine J_condF rfl ?_
    refine J_skip ?_
    refine seqQ_normal ?_
    refine J_seq ?_
    refine J_region ?_
    refine L_q (Q_move rfl) rfl rfl rfl ?_
    refine L_q (Q_nilCheck rfl) rfl rfl rfl ?_
    refine L_q (Q_fa0 rfl) rfl rfl rfl ?_
    refine L_q (Q_ld 1 rfl rfl rfl rfl) rfl rfl rfl ?_
    refine L_q (Q_move rfl) rfl rfl rfl ?_
    refine L_q (Q_move rfl) rfl rfl rfl ?_
    refine L_q (Q_add rfl rfl (by first | exact IntWalk.i64_in _ (by omega) | exact IntWalk.u8_in _ (by omega) | exact IntWalk.u32_in _ (by omega) | exact IntWalk.u64_in _ (by omega) | rfl)) rfl rfl rfl ?_
    refine L_q (Q_build rfl) rfl rfl rfl ?_
    refine L_s rfl rfl (O_mset (M := mW) 2 s (now + 4, 8) rfl rfl rfl rfl ?_)
    refine JL.norm ?_
    refine JL_nil ?_
    refine seqQ_normal ?_
    refine J_seq ?_
    refine J_region ?_
    refine L_q (Q_assign rfl) rfl rfl rfl ?_
    refine JL_nil ?_
    refine seqQ_normal ?_
    refine J_ret ?_
    exact retQ_ret _ [timC p most r, mpC mW r (mset m s (now + 4, 8))] (.cons (RV_tmp rfl) .nil) ⟨_, rfl, h.sent s now (by omega) hs2 hq hg, rfl⟩ (Ent.re [1, 2, 3] rfl)
end Go.Proofs
