/- Requests inserted, and deleted. -/
import Derived.Test.YtbpohfojedpneaaPool2
set_option autoImplicit false
namespace Go.Proofs
open Go.SL
attribute [local irreducible] J JL QOp JOp seqQ blockQ loopQ retQ slc cel hex star pur stars Does RV Ent pAt scopeQ
theorem rqins_ok (E : World) (S T : SV) (l : List Rq) (x : Rq) (at' : Nat) (hat : at' ≤ l.length) (hl : l.length ≤ 100000) :
    Does Try.prog E 27 [S.v, .int .i64 (at' : Int), T.v] [slc tRq true S l, slcN tRq T [x]] fun v L => ∃ S' : SV, v = S'.v ∧ L = [slc tRq true S' (l.take at' ++ x :: l.drop at')] := by
  have hov : OvFn Try.prog 33 27 := ⟨_, 4, Try.func33, by kernel_rfl, by kernel_rfl, by kernel_rfl, by kernel_rfl⟩
  refine Does.of Try.func27 rfl Try.ntmps27 rfl rfl fun F => ?_
  refine J.norm ?_
  refine J.have (p := S.n = l.length ∧ S.n ≤ S.c ∧ (0 < S.c → ∃ g o, S.a = some ⟨g, o, none⟩) ∧ ∃ b, T = ⟨some ⟨b, 0, none⟩, 1, 1⟩) (fun w hs => ⟨(hs.rd 0 rfl).1, (hs.rd 0 rfl).2.1, hs.slcA 0 rfl, hs.slcT 1 rfl⟩) fun ⟨hSn, hSc, hSa, b, hT⟩ => ?_
  subst hT
  refine J_seq ?_
  refine J_region ?_
  refine L_q (Q_assign rfl) rfl rfl rfl ?_
  refine JL_nil ?_
  refine seqQ_normal ?_
  refine J_seq ?_
  refine J_region ?_
  refine L_q (Q_move rfl) rfl rfl rfl ?_
  refine L_q (Q_move rfl) rfl rfl rfl ?_
  refine L_q (Q_slLc (τ := tRq) at' l.length rfl rfl rfl hSn hat rfl) rfl rfl rfl ?_
  refine JL_nil ?_
  refine seqQ_normal ?_
  refine J_seq ?_
  refine J_region ?_
  refine L_q (Q_move rfl) rfl rfl rfl ?_
  refine L_q ((Q_lenV (S := ⟨some ⟨b, 0, none⟩, 1, 1⟩) rfl).as (v' := .int .i64 1) rfl) rfl rfl rfl ?_
  refine L_q (Q_assign rfl) rfl rfl rfl ?_
  refine JL_nil ?_
  refine seqQ_normal ?_
  refine J_seq ?_
  refine J_seq ?_
  refine J_region ?_
  refine L_q (Q_move rfl) rfl rfl rfl ?_
  refine L_q (Q_eql rfl rfl) rfl rfl rfl ?_
  refine JL_nil ?_
  refine seqQ_normal ?_
  refine J_condF rfl ?_
  refine J_skip ?_
  refine seqQ_normal ?_
  refine J_seq ?_
  refine J_region ?_
  refine L_q (Q_move rfl) rfl rfl rfl ?_
  refine L_q (Q_lenAt 0 rfl rfl) rfl rfl rfl ?_
  refine L_q (Q_assign rfl) rfl rfl rfl ?_
  refine JL_nil ?_
  refine seqQ_normal ?_
  refine J_seq ?_
  refine J_seq ?_
  refine J_region ?_
  refine L_q (Q_move rfl) rfl rfl rfl ?_
  refine L_q (Q_move rfl) rfl rfl rfl ?_
  refine L_q (Q_eql rfl rfl) rfl rfl rfl ?_
  refine JL_nil ?_
  refine seqQ_normal ?_
  refine J_condD rfl (fun h => ?_) (fun h => ?_)
  · obtain rfl : at' = l.length := by omega
    refine J_seq ?_
    refine J_region ?_
    refine L_q (Q_move rfl) rfl rfl rfl ?_
    refine L_q (Q_move rfl) rfl rfl rfl ?_
    refine L_o rfl rfl rfl (O_app (τ := tRq) 0 rfl (fun w h => h.rdN 1 rfl) rfl rfl rfl rfl (by simp only [List.length_singleton]; omega) (by decide) (fun S2 => ?_))
    refine JL.norm ?_
    refine L_q (Q_assign rfl) rfl rfl rfl ?_
    refine JL_nil ?_
    refine seqQ_normal ?_
    refine J_ret ?_
    refine seqQ_ret ?_
    exact retQ_ret _ [slc tRq true S2 (l ++ [x])] (.cons (RV_tmp rfl) .nil) ⟨S2, rfl, by rw [List.take_length, List.drop_length]⟩ (Ent.re [0, 2] rfl)
  have hlt : at' < l.length := by omega
  have hdl : (l.drop at').length = l.length - at' := by simp
  have htl : (l.take at').length = at' := by simp; omega
  refine J_skip ?_
  refine seqQ_normal ?_
  refine J_seq ?_
  refine J_seq ?_
  refine J_region ?_
  refine L_q (Q_move rfl) rfl rfl rfl ?_
  refine L_q (Q_move rfl) rfl rfl rfl ?_
  refine L_q (Q_add rfl rfl (by first | exact IntWalk.i64_in _ (by omega) | exact IntWalk.u8_in _ (by omega) | exact IntWalk.u32_in _ (by omega) | exact IntWalk.u64_in _ (by omega) | rfl)) rfl rfl rfl ?_
  refine L_q (Q_move rfl) rfl rfl rfl ?_
  refine L_q (Q_capV (S := S) rfl) rfl rfl rfl ?_
  refine L_q (Q_gtr rfl rfl) rfl rfl rfl ?_
  refine JL_nil ?_
  refine seqQ_normal ?_
  refine J_condD rfl (fun h => ?_) (fun h => ?_)
  · have hbig : S.c < l.length + 1 := by omega
    refine J_seq ?_
    refine J_region ?_
    refine L_q (Q_move rfl) rfl rfl rfl ?_
    refine L_q (Q_move rfl) rfl rfl rfl ?_
    refine L_q (Q_slHc (τ := tRq) at' rfl rfl rfl (by omega)) rfl rfl rfl ?_
    refine L_q (Q_move rfl) rfl rfl rfl ?_
    refine L_q (Q_move rfl) rfl rfl rfl ?_
    refine L_q (Q_add rfl rfl (by first | exact IntWalk.i64_in _ (by omega) | exact IntWalk.u8_in _ (by omega) | exact IntWalk.u32_in _ (by omega) | exact IntWalk.u64_in _ (by omega) | rfl)) rfl rfl rfl ?_
    refine L_q (Q_move rfl) rfl rfl rfl ?_
    refine L_q (Q_sub rfl rfl (by first | exact IntWalk.i64_in _ (by omega) | exact IntWalk.u8_in _ (by omega) | exact IntWalk.u32_in _ (by omega) | exact IntWalk.u64_in _ (by omega) | rfl)) rfl rfl rfl ?_
    refine L_o rfl rfl rfl (O_appZ (τ := tRq) 0 at' (l.length + 1 - at') (⟨0, 0, 0, 0, [], []⟩ : Rq) rfl rfl rfl (by omega) rfl rfl hat (by omega) (by omega) (by decide) (fun S2 => ?_))
    refine JL.norm ?_
    refine L_q (Q_assign rfl) rfl rfl rfl ?_
    refine JL_nil ?_
    refine seqQ_normal ?_
    refine J_seq ?_
    refine J.have (p := S2.n = l.length + 1) (fun w hs => by have := (hs.rd 0 rfl).1; rw [this]; simp; omega) fun hS2 => ?_
    obtain ⟨a2, n2, c2⟩ := S2
    simp only at hS2
    subst hS2
    refine J.have (p := l.length + 1 ≤ c2) (fun w hs => (hs.rd 0 rfl).2.1) fun hc2 => ?_
    refine J_region ?_
    refine L_q (Q_move rfl) rfl rfl rfl ?_
    refine L_q (Q_move rfl) rfl rfl rfl ?_
    refine L_q (Q_slLc (τ := tRq) at' (l.length + 1) rfl rfl rfl rfl (by omega) rfl) rfl rfl rfl ?_
    refine L_q (Q_move rfl) rfl rfl rfl ?_
    refine L_o rfl rfl rfl (O_copy (τ := tRq) (T := ⟨some ⟨b, 0, none⟩, 1, 1⟩) (m := [x]) 0 at' (l.length + 1) rfl (fun w h => h.rdN 2 rfl) rfl rfl rfl (by simp; omega) (by simp; omega) (by simp; omega) ?_)
    refine JL.norm ?_
    refine JL_nil ?_
    refine seqQ_normal ?_
    refine J_seq ?_
    have e1 : (l.take at' ++ List.replicate (l.length + 1 - at') (⟨0, 0, 0, 0, [], []⟩ : Rq)).take at' ++ [x] ++ (l.take at' ++ List.replicate (l.length + 1 - at') (⟨0, 0, 0, 0, [], []⟩ : Rq)).drop (at' + [x].length) = l.take at' ++ [x] ++ List.replicate (l.length - at') (⟨0, 0, 0, 0, [], []⟩ : Rq) := by
      rw [List.take_append_of_le_length (by omega), List.take_take, Nat.min_self, List.drop_append, List.drop_eq_nil_of_le (by rw [htl]; simp), htl, List.drop_replicate]
      simp
      omega
    have e2 : max (l.length + 1) (at' + [x].length) = l.length + 1 := by simp; omega
    rw [e1, e2]
    refine J_drawH [] [0, 1, 2, 3, 4, 5, 6, 7] (.quiet 0 (.quiet 1 (.quiet 2 (.quiet 3 (.quiet 4 (.quiet 5 (.quiet 6 (.quiet 7 (.loud 8 .done))))))))) Try.mixed (by kernel_rfl) (by kernel_rfl) (by repeat (first | exact retQ_noP | refine seqQ_noP ?_ | refine blockQ_noP ?_ | refine loopQ_noP ?_ | refine scopeQ_noP ?_)) ?_
    refine S_q (Ent.re [] rfl) rfl (Q_move rfl) rfl rfl rfl ?_
    refine S_q (Ent.re [] rfl) rfl (Q_move rfl) rfl rfl rfl ?_
    refine S_q (Ent.re [] rfl) rfl (Q_move rfl) rfl rfl rfl ?_
    refine S_q (Ent.re [] rfl) rfl (Q_add rfl rfl (by first | exact IntWalk.i64_in _ (by omega) | exact IntWalk.u8_in _ (by omega) | exact IntWalk.u32_in _ (by omega) | exact IntWalk.u64_in _ (by omega) | rfl)) rfl rfl rfl ?_
    refine S_q (Ent.re [] rfl) rfl (Q_slLc (τ := tRq) (at' + 1) (l.length + 1) rfl rfl (by omega) rfl (by omega) rfl) rfl rfl rfl ?_
    refine S_q (Ent.re [] rfl) rfl (Q_move rfl) rfl rfl rfl ?_
    refine S_q (Ent.re [] rfl) rfl (Q_move rfl) rfl rfl rfl ?_
    refine S_q (Ent.re [] rfl) rfl (Q_slLc (τ := tRq) at' l.length rfl rfl rfl hSn hat rfl) rfl rfl rfl ?_
    refine S_o rfl rfl rfl rfl (O_copy (τ := tRq) (T := S.sub tRq.sz at' l.length) (m := l.drop at') 0 (at' + 1) (l.length + 1) rfl (fun w h => (h.rd 1 rfl).dropN at' hat) rfl rfl rfl (by rw [hdl]; show min (l.length - at') _ = _; omega) (by simp; omega) (by rw [hdl]; simp only; omega) ⟨[], fun _ => ⟨Ent.re [] rfl, Ent.refl _⟩, ?_⟩)
    refine JS.norm ?_
    refine S_nil ?_
    refine seqQ_normal ?_
    refine J_seq ?_
    have e3 : (l.take at' ++ [x] ++ List.replicate (l.length - at') (⟨0, 0, 0, 0, [], []⟩ : Rq)).take (at' + 1) ++ l.drop at' ++ (l.take at' ++ [x] ++ List.replicate (l.length - at') (⟨0, 0, 0, 0, [], []⟩ : Rq)).drop (at' + 1 + (l.drop at').length) = l.take at' ++ x :: l.drop at' := by
      have a1 : (l.take at' ++ [x] ++ List.replicate (l.length - at') (⟨0, 0, 0, 0, [], []⟩ : Rq)).take (at' + 1) = l.take at' ++ [x] := List.take_left' (by simp; omega)
      have a2 : (l.take at' ++ [x] ++ List.replicate (l.length - at') (⟨0, 0, 0, 0, [], []⟩ : Rq)).drop (at' + 1 + (l.drop at').length) = [] := List.drop_eq_nil_of_le (by simp; omega)
      rw [a1, a2]
      simp
    have e4 : max (l.length + 1) (at' + 1 + (l.drop at').length) = l.length + 1 := by rw [hdl]; omega
    rw [e3, e4]
    refine J_region ?_
    refine L_q (Q_move rfl) rfl rfl rfl ?_
    refine L_q (Q_assign rfl) rfl rfl rfl ?_
    refine JL_nil ?_
    refine seqQ_normal ?_
    refine J_ret ?_
    refine seqQ_ret ?_
    exact retQ_ret _ [slc tRq true ⟨a2, l.length + 1, c2⟩ (l.take at' ++ x :: l.drop at')] (.cons (RV_tmp rfl) .nil) ⟨_, rfl, rfl⟩ (Ent.re [0, 3] rfl)
  · obtain ⟨g, o, hSA⟩ := hSa (by omega)
    clear hSa
    obtain ⟨aS, nS, cS⟩ := S
    simp only at hSn hSc hSA h
    subst hSn hSA
    have hroom : l.length + 1 ≤ cS := by omega
    refine J_skip ?_
    refine seqQ_normal ?_
    refine J_seq ?_
    refine J_region ?_
    refine L_q (Q_move rfl) rfl rfl rfl ?_
    refine L_q (Q_move rfl) rfl rfl rfl ?_
    refine L_q (Q_move rfl) rfl rfl rfl ?_
    refine L_q (Q_add rfl rfl (by first | exact IntWalk.i64_in _ (by omega) | exact IntWalk.u8_in _ (by omega) | exact IntWalk.u32_in _ (by omega) | exact IntWalk.u64_in _ (by omega) | rfl)) rfl rfl rfl ?_
    refine L_q ((Q_slHc (τ := tRq) (l.length + 1) rfl rfl rfl hroom).as (v' := SV.v ⟨some ⟨g, o, none⟩, l.length + 1, cS⟩) (by simp [SV.sub, addr_add])) rfl rfl rfl ?_
    refine L_q (Q_assign rfl) rfl rfl rfl ?_
    refine JL_nil ?_
    refine seqQ_normal ?_
    refine J_seq ?_
    refine J_seq ?_
    refine J_region ?_
    refine L_q (Q_move rfl) rfl rfl rfl ?_
    refine L_q (Q_move rfl) rfl rfl rfl ?_
    refine L_q (Q_move rfl) rfl rfl rfl ?_
    refine L_q (Q_move rfl) rfl rfl rfl ?_
    refine L_q (Q_add rfl rfl (by first | exact IntWalk.i64_in _ (by omega) | exact IntWalk.u8_in _ (by omega) | exact IntWalk.u32_in _ (by omega) | exact IntWalk.u64_in _ (by omega) | rfl)) rfl rfl rfl ?_
    refine L_q (Q_slLc (τ := tRq) (S := ⟨some ⟨g, o, none⟩, l.length + 1, cS⟩) (at' + 1) (l.length + 1) rfl rfl (by omega) rfl (by omega) rfl) rfl rfl rfl ?_
    refine L_o rfl rfl rfl (O_overlaps (τ := tRq) (S := ⟨some ⟨g, o, none⟩, l.length, cS⟩) (T := ⟨some ⟨b, 0, none⟩, 1, 1⟩) 1 0 (at' + 1) (l.length + 1) hov (by decide) rfl rfl rfl rfl rfl (by simp) (by simp only; omega) ?_)
    refine JL.norm ?_
    refine L_q (Q_not rfl) rfl rfl rfl ?_
    refine JL_nil ?_
    refine seqQ_normal ?_
    refine J_condT rfl ?_
    refine J_seq ?_
    refine J_drawH [] [0, 1, 2, 3, 4, 5, 6, 7] (.quiet 0 (.quiet 1 (.quiet 2 (.quiet 3 (.quiet 4 (.quiet 5 (.quiet 6 (.quiet 7 (.loud 8 .done))))))))) Try.mixed (by kernel_rfl) (by kernel_rfl) (by repeat (first | exact retQ_noP | refine seqQ_noP ?_ | refine blockQ_noP ?_ | refine loopQ_noP ?_ | refine scopeQ_noP ?_)) ?_
    refine S_q (Ent.re [] rfl) rfl (Q_move rfl) rfl rfl rfl ?_
    refine S_q (Ent.re [] rfl) rfl (Q_move rfl) rfl rfl rfl ?_
    refine S_q (Ent.re [] rfl) rfl (Q_move rfl) rfl rfl rfl ?_
    refine S_q (Ent.re [] rfl) rfl (Q_add rfl rfl (by first | exact IntWalk.i64_in _ (by omega) | exact IntWalk.u8_in _ (by omega) | exact IntWalk.u32_in _ (by omega) | exact IntWalk.u64_in _ (by omega) | rfl)) rfl rfl rfl ?_
    refine S_q (Ent.re [] rfl) rfl (Q_slLc (τ := tRq) (S := ⟨some ⟨g, o, none⟩, l.length + 1, cS⟩) (at' + 1) (l.length + 1) rfl rfl (by omega) rfl (by omega) rfl) rfl rfl rfl ?_
    refine S_q (Ent.re [] rfl) rfl (Q_move rfl) rfl rfl rfl ?_
    refine S_q (Ent.re [] rfl) rfl (Q_move rfl) rfl rfl rfl ?_
    refine S_q (Ent.re [] rfl) rfl (Q_slLc (τ := tRq) (S := ⟨some ⟨g, o, none⟩, l.length + 1, cS⟩) at' (l.length + 1) rfl rfl rfl rfl (by omega) rfl) rfl rfl rfl ?_
    refine S_o rfl rfl rfl rfl (O_copy (τ := tRq) (D := ⟨some ⟨g, o, none⟩, l.length, cS⟩) (T := SV.sub ⟨some ⟨g, o, none⟩, l.length + 1, cS⟩ tRq.sz at' (l.length + 1)) (m := l.drop at') 0 (at' + 1) (l.length + 1) rfl (fun w h => (h.rd 0 rfl).dropN at' hat) rfl rfl rfl (by rw [hdl]; show min (l.length + 1 - at') _ = _; omega) (by omega) (by rw [hdl]; simp only; omega) ⟨[], fun _ => ⟨Ent.re [] rfl, Ent.refl _⟩, ?_⟩)
    refine JS.norm ?_
    refine S_nil ?_
    refine seqQ_normal ?_
    refine J_seq ?_
    have e3 : l.take (at' + 1) ++ l.drop at' ++ l.drop (at' + 1 + (l.drop at').length) = l.take (at' + 1) ++ l.drop at' := by
      have a3 : l.drop (at' + 1 + (l.drop at').length) = [] := List.drop_eq_nil_of_le (by rw [hdl]; omega)
      rw [a3, List.append_nil]
    have e4 : max l.length (at' + 1 + (l.drop at').length) = l.length + 1 := by rw [hdl]; omega
    simp only [e3, e4]
    refine J_region ?_
    refine L_q (Q_move rfl) rfl rfl rfl ?_
    refine L_q (Q_move rfl) rfl rfl rfl ?_
    refine L_q (Q_slLc (τ := tRq) (S := ⟨some ⟨g, o, none⟩, l.length + 1, cS⟩) at' (l.length + 1) rfl rfl rfl rfl (by omega) rfl) rfl rfl rfl ?_
    refine L_q (Q_move rfl) rfl rfl rfl ?_
    refine L_o rfl rfl rfl (O_copy (τ := tRq) (T := ⟨some ⟨b, 0, none⟩, 1, 1⟩) (m := [x]) 0 at' (l.length + 1) rfl (fun w h => h.rdN 1 rfl) rfl rfl rfl (by simp; omega) (by simp; omega) (by simp; omega) ?_)
    refine JL.norm ?_
    refine JL_nil ?_
    refine seqQ_normal ?_
    refine J_seq ?_
    have e5 : (l.take (at' + 1) ++ l.drop at').take at' ++ [x] ++ (l.take (at' + 1) ++ l.drop at').drop (at' + [x].length) = l.take at' ++ x :: l.drop at' := by
      rw [List.take_append_of_le_length (by simp; omega), List.take_take, Nat.min_eq_left (by omega), List.drop_left' (by simp; omega)]
      simp
    have e6 : max (l.length + 1) (at' + [x].length) = l.length + 1 := by simp; omega
    simp only [e5, e6]
    refine J_region ?_
    refine L_q (Q_move rfl) rfl rfl rfl ?_
    refine L_q (Q_assign rfl) rfl rfl rfl ?_
    refine JL_nil ?_
    refine seqQ_normal ?_
    refine J_ret ?_
    refine seqQ_ret ?_
    exact retQ_ret _ [slc tRq true ⟨some ⟨g, o, none⟩, l.length + 1, cS⟩ (l.take at' ++ x :: l.drop at')] (.cons (RV_tmp rfl) .nil) ⟨_, rfl, rfl⟩ (Ent.re [0, 2] rfl)
theorem rqdel_ok (E : World) (S : SV) (l : List Rq) (i j : Nat) (hij : i ≤ j) (hj : j ≤ l.length) (hl : l.length ≤ 100000) :
    Does Try.prog E 25 [S.v, .int .i64 (i : Int), .int .i64 (j : Int)] [slc tRq true S l] fun v L => ∃ S' : SV, v = S'.v ∧ L = [slc tRq true S' (l.take i ++ l.drop j)] := by
  refine Does.of Try.func25 rfl Try.ntmps25 rfl rfl fun F => ?_
  refine J.norm ?_
  refine J.have (p := S.n = l.length ∧ S.n ≤ S.c) (fun w hs => ⟨(hs.rd 0 rfl).1, (hs.rd 0 rfl).2.1⟩) fun hS => ?_
  refine J_seq ?_
  refine J_region ?_
  refine L_q (Q_assign rfl) rfl rfl rfl ?_
  refine JL_nil ?_
  refine seqQ_normal ?_
  refine J_seq ?_
  refine J_region ?_
  refine L_q (Q_move rfl) rfl rfl rfl ?_
  refine L_q (Q_move rfl) rfl rfl rfl ?_
  refine L_q (Q_move rfl) rfl rfl rfl ?_
  refine L_q (Q_move rfl) rfl rfl rfl ?_
  refine L_q (Q_lenAt 0 rfl rfl) rfl rfl rfl ?_
  refine L_q (Q_sl3 (τ := tRq) i j l.length rfl rfl rfl rfl rfl rfl rfl hij hj (by omega) rfl) rfl rfl rfl ?_
  refine JL_nil ?_
  refine seqQ_normal ?_
  refine J_seq ?_
  refine J_seq ?_
  refine J_region ?_
  refine L_q (Q_move rfl) rfl rfl rfl ?_
  refine L_q (Q_move rfl) rfl rfl rfl ?_
  refine L_q (Q_eql rfl rfl) rfl rfl rfl ?_
  refine JL_nil ?_
  refine seqQ_normal ?_
  refine J_condD rfl (fun h => ?_) (fun h => ?_)
  · obtain rfl : i = j := by omega
    refine J_seq ?_
    refine J_region ?_
    refine L_q (Q_move rfl) rfl rfl rfl ?_
    refine L_q (Q_assign rfl) rfl rfl rfl ?_
    refine JL_nil ?_
    refine seqQ_normal ?_
    refine J_ret ?_
    refine seqQ_ret ?_
    exact retQ_ret _ [slc tRq true S l] (.cons (RV_tmp rfl) .nil) ⟨S, rfl, by rw [List.take_append_drop]⟩ (Ent.refl _)
  · have hm : (l.take l.length).drop j = l.drop j := by rw [List.take_length]
    have hlen : (l.take i ++ l.drop j).length = i + (l.length - j) := by simp; omega
    refine J_skip ?_
    refine seqQ_normal ?_
    refine J_seq ?_
    refine J_region ?_
    refine L_q (Q_move rfl) rfl rfl rfl ?_
    refine L_q (Q_lenAt 0 rfl rfl) rfl rfl rfl ?_
    refine L_q (Q_assign rfl) rfl rfl rfl ?_
    refine JL_nil ?_
    refine seqQ_normal ?_
    refine J_seq ?_
    refine J_drawH [] [0, 1, 2, 3, 4, 5, 7] (.quiet 0 (.quiet 1 (.quiet 2 (.quiet 3 (.quiet 4 (.quiet 5 (.loud 6 (.quiet 7 .done)))))))) Try.mixed (by kernel_rfl) (by kernel_rfl) (by repeat (first | exact retQ_noP | refine seqQ_noP ?_ | refine blockQ_noP ?_ | refine loopQ_noP ?_ | refine scopeQ_noP ?_)) ?_
    refine S_q (Ent.re [] rfl) rfl (Q_move rfl) rfl rfl rfl ?_
    refine S_q (Ent.re [] rfl) rfl (Q_move rfl) rfl rfl rfl ?_
    refine S_q (Ent.re [] rfl) rfl (Q_slHc (τ := tRq) i rfl rfl rfl (by omega)) rfl rfl rfl ?_
    refine S_q (Ent.re [] rfl) rfl (Q_move rfl) rfl rfl rfl ?_
    refine S_q (Ent.re [] rfl) rfl (Q_move rfl) rfl rfl rfl ?_
    refine S_q (Ent.re [] rfl) rfl (Q_slLc (τ := tRq) j l.length rfl rfl rfl hS.1 hj rfl) rfl rfl rfl ?_
    refine S_o rfl rfl rfl rfl (O_appIn (τ := tRq) 0 i rfl (fun w h => (h.rd 0 rfl).sub j l.length hj (Nat.le_refl _)) rfl rfl rfl (by omega) (by simp; omega) ⟨[], fun _ => ⟨Ent.re [] rfl, Ent.refl _⟩, ?_⟩)
    refine JS.norm ?_
    refine S_q (Ent.re [] rfl) rfl (Q_assign rfl) rfl rfl rfl ?_
    refine S_nil ?_
    refine seqQ_normal ?_
    refine J_seq ?_
    rw [hm]
    have hS' : (⟨(S.sub tRq.sz 0 i).a, i + (l.drop j).length, S.c⟩ : SV).c = S.c := rfl
    generalize (⟨(S.sub tRq.sz 0 i).a, i + (l.drop j).length, S.c⟩ : SV) = T at hS' ⊢
    refine J_region ?_
    refine L_q (Q_move rfl) rfl rfl rfl ?_
    refine L_q (Q_move rfl) rfl rfl rfl ?_
    refine L_q (Q_lenAt 0 rfl rfl) rfl rfl rfl ?_
    refine L_q (Q_move rfl) rfl rfl rfl ?_
    refine L_q (Q_slLHc (τ := tRq) (i + (l.length - j)) l.length rfl rfl rfl (by rw [hlen]) rfl (by omega) (by omega) rfl) rfl rfl rfl ?_
    refine L_s rfl rfl (O_clear (τ := tRq) 0 (i + (l.length - j)) l.length rfl rfl rfl rfl (by simp [Value.cells, Value.oneCell']) (by omega) (by omega) (by omega) ?_)
    refine JL.norm ?_
    refine JL_nil ?_
    refine seqQ_normal ?_
    refine J_seq ?_
    refine J_region ?_
    refine L_q (Q_move rfl) rfl rfl rfl ?_
    refine L_q (Q_assign rfl) rfl rfl rfl ?_
    refine JL_nil ?_
    refine seqQ_normal ?_
    refine J_ret ?_
    exact retQ_ret _ [slc tRq true T (l.take i ++ l.drop j)] (.cons (RV_tmp rfl) .nil) ⟨T, rfl, rfl⟩ (Ent.refl _)
end Go.Proofs
