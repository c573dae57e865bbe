/- A window, walked. -/
import Derived.Test.YtmmkepghmmbppaaFacts
import Derived.Test.YtmmkepghmmbppaaSl18
import Derived.Test.YtmmkepghmmbppaaWinP
set_option autoImplicit false
namespace Go.Proofs
open Go.SL
def mB : MTy Int Bool := ⟨3, 4, .int .i64, fun z => .int .i64 z, fun b => .bool b, fun a b => by simp only [Instr.sameNow, if_true, Option.some.injEq]; by_cases h : a = b <;> simp [h], fun a => by simp [Instr.sameBits], .inl ⟨.i64, rfl⟩⟩
instance : TyU Try.prog mB.kt mB.kd := inferInstanceAs (TyU Try.prog 3 (.int .i64))
instance : TyI Try.prog mB.vt 1 (.bool false) 1 := inferInstanceAs (TyI Try.prog 4 1 (.bool false) 1)
instance : TyU Try.prog 68 (.map mB.kt mB.vt) := inferInstanceAs (TyU Try.prog 68 (.map 3 4))
theorem mget_val (o : Option Bool) (h : o = some true ∨ o = none) : (o.map mB.venc).getD (.bool false) = .bool o.isSome := by
  rcases h with rfl | rfl <;> rfl
theorem Beyond.val {b : Nat} {m : List (Int × Bool)} {L : List Int} (h : Beyond b m L) (k : Int) : mget m k = some true ∨ mget m k = none := by
  rw [h.at']; split
  · exact .inl rfl
  · exact .inr rfl
def winSize (z : Int) : Nat := (min (max z 1) 64).toNat
theorem winSize_eq (z : Int) : min (max z 1) 64 = ((winSize z : Nat) : Int) := by unfold winSize; omega
theorem winSize_le (z : Int) : 1 ≤ winSize z ∧ winSize z ≤ 64 := by unfold winSize; omega
attribute [local irreducible] J JL QOp JOp seqQ blockQ loopQ retQ slc cel hex star pur stars Does RV Ent pAt scopeQ
attribute [local irreducible] mpC
theorem wsize_ok (E : World) (z : Int) : Does Try.prog E 30 [.int .i64 z] [] fun v L => v = .int .i64 (winSize z : Int) ∧ L = [] := by
  refine Does.of Try.func30 rfl Try.ntmps30 rfl rfl fun F => ?_
  refine J.norm ?_
  refine J_seq ?_
  refine J_region ?_
  refine L_q (Q_assign rfl) rfl rfl rfl ?_
  refine JL_nil ?_
  refine seqQ_normal ?_
  refine J_seq ?_
  refine J_region ?_
  refine L_q (Q_move rfl) rfl rfl rfl ?_
  refine L_q (Q_max2 rfl rfl) rfl rfl rfl ?_
  refine L_q ((Q_min2 rfl rfl).as (congrArg (Value.int .i64) (winSize_eq z))) rfl rfl rfl ?_
  refine L_q (Q_assign rfl) rfl rfl rfl ?_
  refine JL_nil ?_
  refine seqQ_normal ?_
  refine J_ret ?_
  exact retQ_ret _ [] (.cons (RV_tmp rfl) .nil) ⟨rfl, rfl⟩ (Ent.refl _)
abbrev winC (p size base r : Nat) : HProp := cel p [.int .i64 (size : Int), .int .i64 (base : Int), .map (some r)] 70
theorem wnew_ok (E : World) (z : Int) : Does Try.prog E 16 [.int .i64 z] [] fun v L => ∃ p r : Nat, v = .pointer (some ⟨p, 0, none⟩) ∧ L = [winC p (winSize z) 0 r, mpC mB r []] := by
  refine Does.of Try.func16 rfl Try.ntmps16 rfl rfl fun F => ?_
  refine J.norm ?_
  refine J_seq ?_
  refine J_region ?_
  refine L_q (Q_assign rfl) rfl rfl rfl ?_
  refine JL_nil ?_
  refine seqQ_normal ?_
  refine J_seq ?_
  refine J_region ?_
  refine L_q (Q_move rfl) rfl rfl rfl ?_
  refine L_o rfl rfl rfl (O_call [] [0] (wsize_ok E z) rfl rfl ?_)
  rintro _ _ ⟨rfl, rfl⟩
  refine JL.norm ?_
  refine L_o rfl rfl rfl (O_mnew mB (fun r => ?_))
  refine JL.norm ?_
  refine L_q (Q_build rfl) rfl rfl rfl ?_
  refine L_o rfl rfl rfl (O_box rfl fun b7 => ?_)
  refine L_q (Q_assign rfl) rfl rfl rfl ?_
  refine JL_nil ?_
  refine seqQ_normal ?_
  refine J_ret ?_
  exact retQ_ret _ [winC b7 (winSize z) 0 r, mpC mB r []] (.cons (RV_tmp rfl) .nil) ⟨b7, r, rfl, rfl⟩ (Ent.refl _)
theorem wbase_ok (E : World) (p size base r : Nat) : Does Try.prog E 27 [.pointer (some ⟨p, 0, none⟩)] [winC p size base r] fun v L => v = .int .i64 (base : Int) ∧ L = [winC p size base r] := by
  refine Does.of Try.func27 rfl Try.ntmps27 rfl rfl fun F => ?_
  refine J.norm ?_
  refine J_seq ?_
  refine J_region ?_
  refine L_q (Q_assign rfl) rfl rfl rfl ?_
  refine JL_nil ?_
  refine seqQ_normal ?_
  refine J_seq ?_
  refine J_seq ?_
  refine J_region ?_
  refine L_q (Q_move rfl) rfl rfl rfl ?_
  refine L_q (Q_peql rfl rfl) rfl rfl rfl ?_
  refine JL_nil ?_
  refine seqQ_normal ?_
  refine J_condF rfl ?_
  refine J_skip ?_
  refine seqQ_normal ?_
  refine J_seq ?_
  refine J_region ?_
  refine L_q (Q_move rfl) rfl rfl rfl ?_
  refine L_q (Q_nilCheck rfl) rfl rfl rfl ?_
  refine L_q (Q_fa0 rfl) rfl rfl rfl ?_
  refine L_q (Q_ld 0 rfl rfl rfl rfl) rfl rfl rfl ?_
  refine L_q (Q_assign rfl) rfl rfl rfl ?_
  refine JL_nil ?_
  refine seqQ_normal ?_
  refine J_ret ?_
  exact retQ_ret _ [winC p size base r] (.cons (RV_tmp rfl) .nil) ⟨rfl, rfl⟩ (Ent.refl _)
theorem wtake_ok (E : World) (p size base r : Nat) (m : List (Int × Bool)) (L : List Int) (z : Int) (h : Beyond base m L) (hb : base = baseOf L) (hL : ∀ x ∈ L, 0 ≤ x) (hl : L.length ≤ 1000000) (hs : size ≤ 64) (hz : z ≤ 9223372036854775807) :
    Does Try.prog E 28 [.pointer (some ⟨p, 0, none⟩), .int .i64 z] [winC p size base r, mpC mB r m] fun v Lc => ∃ m' : List (Int × Bool), v = .bool (takeB size L z) ∧ Beyond (baseOf (takeL size L z)) m' (takeL size L z) ∧ Lc = [winC p size (baseOf (takeL size L z)) r, mpC mB r m'] := by
  have hv := mget_val _ (h.val z)
  have he := has_eq h hL z
  have hble := baseOf_le L
  refine Does.of Try.func28 rfl Try.ntmps28 rfl rfl fun F => ?_
  refine J.norm ?_
  refine J_seq ?_
  refine J_region ?_
  refine L_q (Q_assign rfl) rfl rfl rfl ?_
  refine JL_nil ?_
  refine seqQ_normal ?_
  refine J_seq ?_
  refine J_seq ?_
  by_cases h1 : z < (base : Int)
  · have ht : takeB size L z = false := by
      simp only [takeB, decide_eq_false_iff_not]
      rintro ⟨h2, h3, _⟩
      exact h2 (by have := h.below z.toNat (by omega); rwa [show ((z.toNat : Nat) : Int) = z by omega] at this)
    have hT : takeL size L z = L := by unfold takeL; rw [ht]; rfl
    rw [ht, hT, ← hb]
    refine J_drawL [0, 1, 2, 3, 4, 5, 6, 7, 8, 9, 10, 11, 12, 13, 14, 15, 16, 17, 18, 19, 20, 21, 22, 23, 24, 25, 26, 27, 28, 29, 30] (.quiet 0 (.quiet 1 (.quiet 2 (.quiet 3 (.quiet 4 (.quiet 5 (.quiet 6 (.quiet 7 (.quiet 8 (.quiet 9 (.quiet 10 (.quiet 11 (.quiet 12 (.quiet 13 (.quiet 14 (.quiet 15 (.quiet 16 (.quiet 17 (.quiet 18 (.quiet 19 (.quiet 20 (.quiet 21 (.quiet 22 (.quiet 23 (.quiet 24 (.quiet 25 (.quiet 26 (.quiet 27 (.quiet 28 (.quiet 29 (.quiet 30 .done))))))))))))))))))))))))))))))) Try.mixed (by kernel_rfl) (by kernel_rfl) (by repeat (first | exact retQ_noP | refine seqQ_noP ?_ | refine blockQ_noP ?_ | refine loopQ_noP ?_ | refine scopeQ_noP ?_ | (intro _ _ _ h; cases h.1))) ?_
    refine S_q (Ent.refl _) rfl (Q_move rfl) rfl rfl rfl ?_
    refine S_q (Ent.refl _) rfl ((Q_peql rfl rfl).as (v' := .bool false) rfl) rfl rfl rfl ?_
    refine S_q (Ent.refl _) rfl (Q_move rfl) rfl rfl rfl ?_
    refine S_q (Ent.refl _) rfl (Q_move rfl) rfl rfl rfl ?_
    refine S_q (Ent.refl _) rfl (Q_move rfl) rfl rfl rfl ?_
    refine S_q (Ent.refl _) rfl (Q_nilCheck rfl) rfl rfl rfl ?_
    refine S_q (Ent.refl _) rfl (Q_fa0 rfl) rfl rfl rfl ?_
    refine S_q (Ent.refl _) rfl (Q_ld 0 rfl rfl rfl rfl) rfl rfl rfl ?_
    refine S_q (Ent.refl _) rfl ((Q_lss rfl rfl).as (v' := .bool true) (congrArg Value.bool (decide_eq_true h1))) rfl rfl rfl ?_
    refine S_q (Ent.refl _) rfl (Q_pickF rfl rfl) rfl rfl rfl ?_
    refine S_q (Ent.refl _) rfl (Q_move rfl) rfl rfl rfl ?_
    refine S_n (Ent.refl _) rfl rfl rfl rfl ?_
    refine S_n (Ent.refl _) rfl rfl rfl rfl ?_
    refine S_n (Ent.refl _) rfl rfl rfl rfl ?_
    refine S_n (Ent.refl _) rfl rfl rfl rfl ?_
    refine S_n (Ent.refl _) rfl rfl rfl rfl ?_
    refine S_n (Ent.refl _) rfl rfl rfl rfl ?_
    refine S_n (Ent.refl _) rfl rfl rfl rfl ?_
    refine S_n (Ent.refl _) rfl rfl rfl rfl ?_
    refine S_n (Ent.refl _) rfl rfl rfl rfl ?_
    refine S_n (Ent.refl _) rfl rfl rfl rfl ?_
    refine S_n (Ent.refl _) rfl rfl rfl rfl ?_
    refine S_q (Ent.refl _) rfl (Q_pickT rfl rfl) rfl rfl rfl ?_
    refine S_q (Ent.refl _) rfl (Q_move rfl) rfl rfl rfl ?_
    refine S_n (Ent.refl _) rfl rfl rfl rfl ?_
    refine S_n (Ent.refl _) rfl rfl rfl rfl ?_
    refine S_n (Ent.refl _) rfl rfl rfl rfl ?_
    refine S_n (Ent.refl _) rfl rfl rfl rfl ?_
    refine S_n (Ent.refl _) rfl rfl rfl rfl ?_
    refine S_n (Ent.refl _) rfl rfl rfl rfl ?_
    refine S_q (Ent.refl _) rfl (Q_pickT rfl rfl) rfl rfl rfl ?_
    refine S_nil ?_
    refine seqQ_normal ?_
    refine J_condT rfl ?_
    refine J_seq ?_
    refine J_region ?_
    refine L_q (Q_assign rfl) rfl rfl rfl ?_
    refine JL_nil ?_
    refine seqQ_normal ?_
    refine J_ret ?_
    refine seqQ_ret ?_
    exact retQ_ret _ [winC p size base r, mpC mB r m] (.cons (RV_tmp rfl) .nil) ⟨m, rfl, h, rfl⟩ (Ent.refl _)
  by_cases h2 : (size : Int) ≤ z - (base : Int)
  · have ht : takeB size L z = false := by
      simp only [takeB, decide_eq_false_iff_not]
      rintro ⟨_, _, h4⟩
      omega
    have hT : takeL size L z = L := by unfold takeL; rw [ht]; rfl
    rw [ht, hT, ← hb]
    refine J_drawL [0, 1, 2, 3, 4, 5, 6, 7, 8, 9, 10, 11, 12, 13, 14, 15, 16, 17, 18, 19, 20, 21, 22, 23, 24, 25, 26, 27, 28, 29, 30] (.quiet 0 (.quiet 1 (.quiet 2 (.quiet 3 (.quiet 4 (.quiet 5 (.quiet 6 (.quiet 7 (.quiet 8 (.quiet 9 (.quiet 10 (.quiet 11 (.quiet 12 (.quiet 13 (.quiet 14 (.quiet 15 (.quiet 16 (.quiet 17 (.quiet 18 (.quiet 19 (.quiet 20 (.quiet 21 (.quiet 22 (.quiet 23 (.quiet 24 (.quiet 25 (.quiet 26 (.quiet 27 (.quiet 28 (.quiet 29 (.quiet 30 .done))))))))))))))))))))))))))))))) Try.mixed (by kernel_rfl) (by kernel_rfl) (by repeat (first | exact retQ_noP | refine seqQ_noP ?_ | refine blockQ_noP ?_ | refine loopQ_noP ?_ | refine scopeQ_noP ?_ | (intro _ _ _ h; cases h.1))) ?_
    refine S_q (Ent.refl _) rfl (Q_move rfl) rfl rfl rfl ?_
    refine S_q (Ent.refl _) rfl ((Q_peql rfl rfl).as (v' := .bool false) rfl) rfl rfl rfl ?_
    refine S_q (Ent.refl _) rfl (Q_move rfl) rfl rfl rfl ?_
    refine S_q (Ent.refl _) rfl (Q_move rfl) rfl rfl rfl ?_
    refine S_q (Ent.refl _) rfl (Q_move rfl) rfl rfl rfl ?_
    refine S_q (Ent.refl _) rfl (Q_nilCheck rfl) rfl rfl rfl ?_
    refine S_q (Ent.refl _) rfl (Q_fa0 rfl) rfl rfl rfl ?_
    refine S_q (Ent.refl _) rfl (Q_ld 0 rfl rfl rfl rfl) rfl rfl rfl ?_
    refine S_q (Ent.refl _) rfl ((Q_lss rfl rfl).as (v' := .bool false) (congrArg Value.bool (decide_eq_false h1))) rfl rfl rfl ?_
    refine S_q (Ent.refl _) rfl (Q_pickF rfl rfl) rfl rfl rfl ?_
    refine S_q (Ent.refl _) rfl (Q_move rfl) rfl rfl rfl ?_
    refine S_q (Ent.refl _) rfl (Q_move rfl) rfl rfl rfl ?_
    refine S_q (Ent.refl _) rfl (Q_move rfl) rfl rfl rfl ?_
    refine S_q (Ent.refl _) rfl (Q_nilCheck rfl) rfl rfl rfl ?_
    refine S_q (Ent.refl _) rfl (Q_fa0 rfl) rfl rfl rfl ?_
    refine S_q (Ent.refl _) rfl (Q_ld 0 rfl rfl rfl rfl) rfl rfl rfl ?_
    refine S_q (Ent.refl _) rfl (Q_sub rfl rfl (by first | exact IntWalk.i64_in _ (by omega) | exact IntWalk.u8_in _ (by omega) | exact IntWalk.u32_in _ (by omega) | exact IntWalk.u64_in _ (by omega) | rfl)) rfl rfl rfl ?_
    refine S_q (Ent.refl _) rfl (Q_move rfl) rfl rfl rfl ?_
    refine S_q (Ent.refl _) rfl (Q_nilCheck rfl) rfl rfl rfl ?_
    refine S_q (Ent.refl _) rfl (Q_fa0 rfl) rfl rfl rfl ?_
    refine S_q (Ent.refl _) rfl (Q_ld 0 rfl rfl rfl rfl) rfl rfl rfl ?_
    refine S_q (Ent.refl _) rfl ((Q_geq rfl rfl).as (v' := .bool true) (congrArg Value.bool (decide_eq_true h2))) rfl rfl rfl ?_
    refine S_q (Ent.refl _) rfl (Q_pickF rfl rfl) rfl rfl rfl ?_
    refine S_q (Ent.refl _) rfl (Q_move rfl) rfl rfl rfl ?_
    refine S_n (Ent.refl _) rfl rfl rfl rfl ?_
    refine S_n (Ent.refl _) rfl rfl rfl rfl ?_
    refine S_n (Ent.refl _) rfl rfl rfl rfl ?_
    refine S_n (Ent.refl _) rfl rfl rfl rfl ?_
    refine S_n (Ent.refl _) rfl rfl rfl rfl ?_
    refine S_n (Ent.refl _) rfl rfl rfl rfl ?_
    refine S_q (Ent.refl _) rfl (Q_pickT rfl rfl) rfl rfl rfl ?_
    refine S_nil ?_
    refine seqQ_normal ?_
    refine J_condT rfl ?_
    refine J_seq ?_
    refine J_region ?_
    refine L_q (Q_assign rfl) rfl rfl rfl ?_
    refine JL_nil ?_
    refine seqQ_normal ?_
    refine J_ret ?_
    refine seqQ_ret ?_
    exact retQ_ret _ [winC p size base r, mpC mB r m] (.cons (RV_tmp rfl) .nil) ⟨m, rfl, h, rfl⟩ (Ent.refl _)
  have hzm : (z ∈ L) ↔ (mget m z).isSome = true := by
    have : decide (z ∈ L) = (mget m z).isSome := by rw [he]; simp [show 0 ≤ z by omega, h1]
    rw [← this]; simp
  by_cases h3 : z ∈ L
  · have ht : takeB size L z = false := by
      simp only [takeB, decide_eq_false_iff_not]
      exact fun h => h.1 h3
    have hT : takeL size L z = L := by unfold takeL; rw [ht]; rfl
    rw [ht, hT, ← hb]
    refine J_drawL [0, 1, 2, 3, 4, 5, 6, 7, 8, 9, 10, 11, 12, 13, 14, 15, 16, 17, 18, 19, 20, 21, 22, 23, 24, 25, 26, 27, 28, 29, 30] (.quiet 0 (.quiet 1 (.quiet 2 (.quiet 3 (.quiet 4 (.quiet 5 (.quiet 6 (.quiet 7 (.quiet 8 (.quiet 9 (.quiet 10 (.quiet 11 (.quiet 12 (.quiet 13 (.quiet 14 (.quiet 15 (.quiet 16 (.quiet 17 (.quiet 18 (.quiet 19 (.quiet 20 (.quiet 21 (.quiet 22 (.quiet 23 (.quiet 24 (.quiet 25 (.quiet 26 (.quiet 27 (.quiet 28 (.quiet 29 (.quiet 30 .done))))))))))))))))))))))))))))))) Try.mixed (by kernel_rfl) (by kernel_rfl) (by repeat (first | exact retQ_noP | refine seqQ_noP ?_ | refine blockQ_noP ?_ | refine loopQ_noP ?_ | refine scopeQ_noP ?_ | (intro _ _ _ h; cases h.1))) ?_
    refine S_q (Ent.refl _) rfl (Q_move rfl) rfl rfl rfl ?_
    refine S_q (Ent.refl _) rfl ((Q_peql rfl rfl).as (v' := .bool false) rfl) rfl rfl rfl ?_
    refine S_q (Ent.refl _) rfl (Q_move rfl) rfl rfl rfl ?_
    refine S_q (Ent.refl _) rfl (Q_move rfl) rfl rfl rfl ?_
    refine S_q (Ent.refl _) rfl (Q_move rfl) rfl rfl rfl ?_
    refine S_q (Ent.refl _) rfl (Q_nilCheck rfl) rfl rfl rfl ?_
    refine S_q (Ent.refl _) rfl (Q_fa0 rfl) rfl rfl rfl ?_
    refine S_q (Ent.refl _) rfl (Q_ld 0 rfl rfl rfl rfl) rfl rfl rfl ?_
    refine S_q (Ent.refl _) rfl ((Q_lss rfl rfl).as (v' := .bool false) (congrArg Value.bool (decide_eq_false h1))) rfl rfl rfl ?_
    refine S_q (Ent.refl _) rfl (Q_pickF rfl rfl) rfl rfl rfl ?_
    refine S_q (Ent.refl _) rfl (Q_move rfl) rfl rfl rfl ?_
    refine S_q (Ent.refl _) rfl (Q_move rfl) rfl rfl rfl ?_
    refine S_q (Ent.refl _) rfl (Q_move rfl) rfl rfl rfl ?_
    refine S_q (Ent.refl _) rfl (Q_nilCheck rfl) rfl rfl rfl ?_
    refine S_q (Ent.refl _) rfl (Q_fa0 rfl) rfl rfl rfl ?_
    refine S_q (Ent.refl _) rfl (Q_ld 0 rfl rfl rfl rfl) rfl rfl rfl ?_
    refine S_q (Ent.refl _) rfl (Q_sub rfl rfl (by first | exact IntWalk.i64_in _ (by omega) | exact IntWalk.u8_in _ (by omega) | exact IntWalk.u32_in _ (by omega) | exact IntWalk.u64_in _ (by omega) | rfl)) rfl rfl rfl ?_
    refine S_q (Ent.refl _) rfl (Q_move rfl) rfl rfl rfl ?_
    refine S_q (Ent.refl _) rfl (Q_nilCheck rfl) rfl rfl rfl ?_
    refine S_q (Ent.refl _) rfl (Q_fa0 rfl) rfl rfl rfl ?_
    refine S_q (Ent.refl _) rfl (Q_ld 0 rfl rfl rfl rfl) rfl rfl rfl ?_
    refine S_q (Ent.refl _) rfl ((Q_geq rfl rfl).as (v' := .bool false) (congrArg Value.bool (decide_eq_false h2))) rfl rfl rfl ?_
    refine S_q (Ent.refl _) rfl (Q_pickF rfl rfl) rfl rfl rfl ?_
    refine S_q (Ent.refl _) rfl (Q_move rfl) rfl rfl rfl ?_
    refine S_q (Ent.refl _) rfl (Q_move rfl) rfl rfl rfl ?_
    refine S_q (Ent.refl _) rfl (Q_nilCheck rfl) rfl rfl rfl ?_
    refine S_q (Ent.refl _) rfl (Q_fa0 rfl) rfl rfl rfl ?_
    refine S_q (Ent.refl _) rfl (Q_ld 0 rfl rfl rfl rfl) rfl rfl rfl ?_
    refine S_q (Ent.refl _) rfl (Q_move rfl) rfl rfl rfl ?_
    refine S_q (Ent.refl _) rfl ((Q_mget (M := mB) 1 z rfl rfl rfl).as (v' := .bool true) (by rw [hv, hzm.1 h3])) rfl rfl rfl ?_
    refine S_q (Ent.refl _) rfl (Q_pickF rfl rfl) rfl rfl rfl ?_
    refine S_nil ?_
    refine seqQ_normal ?_
    refine J_condT rfl ?_
    refine J_seq ?_
    refine J_region ?_
    refine L_q (Q_assign rfl) rfl rfl rfl ?_
    refine JL_nil ?_
    refine seqQ_normal ?_
    refine J_ret ?_
    refine seqQ_ret ?_
    exact retQ_ret _ [winC p size base r, mpC mB r m] (.cons (RV_tmp rfl) .nil) ⟨m, rfl, h, rfl⟩ (Ent.refl _)
  · have hmn : (mget m z).isSome = false := by
      cases hx : (mget m z).isSome with
      | false => rfl
      | true => exact absurd (hzm.2 hx) h3
    have ht : takeB size L z = true := by
      simp only [takeB, decide_eq_true_eq]
      exact ⟨h3, by omega, by omega⟩
    have hT : takeL size L z = L ++ [z] := by unfold takeL; rw [ht]; rfl
    have hlen : (L ++ [z]).length = L.length + 1 := by simp
    have hble2 := baseOf_le (L ++ [z])
    rw [ht, hT]
    refine J_drawL [0, 1, 2, 3, 4, 5, 6, 7, 8, 9, 10, 11, 12, 13, 14, 15, 16, 17, 18, 19, 20, 21, 22, 23, 24, 25, 26, 27, 28, 29, 30] (.quiet 0 (.quiet 1 (.quiet 2 (.quiet 3 (.quiet 4 (.quiet 5 (.quiet 6 (.quiet 7 (.quiet 8 (.quiet 9 (.quiet 10 (.quiet 11 (.quiet 12 (.quiet 13 (.quiet 14 (.quiet 15 (.quiet 16 (.quiet 17 (.quiet 18 (.quiet 19 (.quiet 20 (.quiet 21 (.quiet 22 (.quiet 23 (.quiet 24 (.quiet 25 (.quiet 26 (.quiet 27 (.quiet 28 (.quiet 29 (.quiet 30 .done))))))))))))))))))))))))))))))) Try.mixed (by kernel_rfl) (by kernel_rfl) (by repeat (first | exact retQ_noP | refine seqQ_noP ?_ | refine blockQ_noP ?_ | refine loopQ_noP ?_ | refine scopeQ_noP ?_ | (intro _ _ _ h; cases h.1))) ?_
    refine S_q (Ent.refl _) rfl (Q_move rfl) rfl rfl rfl ?_
    refine S_q (Ent.refl _) rfl ((Q_peql rfl rfl).as (v' := .bool false) rfl) rfl rfl rfl ?_
    refine S_q (Ent.refl _) rfl (Q_move rfl) rfl rfl rfl ?_
    refine S_q (Ent.refl _) rfl (Q_move rfl) rfl rfl rfl ?_
    refine S_q (Ent.refl _) rfl (Q_move rfl) rfl rfl rfl ?_
    refine S_q (Ent.refl _) rfl (Q_nilCheck rfl) rfl rfl rfl ?_
    refine S_q (Ent.refl _) rfl (Q_fa0 rfl) rfl rfl rfl ?_
    refine S_q (Ent.refl _) rfl (Q_ld 0 rfl rfl rfl rfl) rfl rfl rfl ?_
    refine S_q (Ent.refl _) rfl ((Q_lss rfl rfl).as (v' := .bool false) (congrArg Value.bool (decide_eq_false h1))) rfl rfl rfl ?_
    refine S_q (Ent.refl _) rfl (Q_pickF rfl rfl) rfl rfl rfl ?_
    refine S_q (Ent.refl _) rfl (Q_move rfl) rfl rfl rfl ?_
    refine S_q (Ent.refl _) rfl (Q_move rfl) rfl rfl rfl ?_
    refine S_q (Ent.refl _) rfl (Q_move rfl) rfl rfl rfl ?_
    refine S_q (Ent.refl _) rfl (Q_nilCheck rfl) rfl rfl rfl ?_
    refine S_q (Ent.refl _) rfl (Q_fa0 rfl) rfl rfl rfl ?_
    refine S_q (Ent.refl _) rfl (Q_ld 0 rfl rfl rfl rfl) rfl rfl rfl ?_
    refine S_q (Ent.refl _) rfl (Q_sub rfl rfl (by first | exact IntWalk.i64_in _ (by omega) | exact IntWalk.u8_in _ (by omega) | exact IntWalk.u32_in _ (by omega) | exact IntWalk.u64_in _ (by omega) | rfl)) rfl rfl rfl ?_
    refine S_q (Ent.refl _) rfl (Q_move rfl) rfl rfl rfl ?_
    refine S_q (Ent.refl _) rfl (Q_nilCheck rfl) rfl rfl rfl ?_
    refine S_q (Ent.refl _) rfl (Q_fa0 rfl) rfl rfl rfl ?_
    refine S_q (Ent.refl _) rfl (Q_ld 0 rfl rfl rfl rfl) rfl rfl rfl ?_
    refine S_q (Ent.refl _) rfl ((Q_geq rfl rfl).as (v' := .bool false) (congrArg Value.bool (decide_eq_false h2))) rfl rfl rfl ?_
    refine S_q (Ent.refl _) rfl (Q_pickF rfl rfl) rfl rfl rfl ?_
    refine S_q (Ent.refl _) rfl (Q_move rfl) rfl rfl rfl ?_
    refine S_q (Ent.refl _) rfl (Q_move rfl) rfl rfl rfl ?_
    refine S_q (Ent.refl _) rfl (Q_nilCheck rfl) rfl rfl rfl ?_
    refine S_q (Ent.refl _) rfl (Q_fa0 rfl) rfl rfl rfl ?_
    refine S_q (Ent.refl _) rfl (Q_ld 0 rfl rfl rfl rfl) rfl rfl rfl ?_
    refine S_q (Ent.refl _) rfl (Q_move rfl) rfl rfl rfl ?_
    refine S_q (Ent.refl _) rfl ((Q_mget (M := mB) 1 z rfl rfl rfl).as (v' := .bool false) (by rw [hv, hmn])) rfl rfl rfl ?_
    refine S_q (Ent.refl _) rfl (Q_pickF rfl rfl) rfl rfl rfl ?_
    refine S_nil ?_
    refine seqQ_normal ?_
    refine J_condF rfl ?_
    refine J_skip ?_
    refine seqQ_normal ?_
    refine J_seq ?_
    refine J_region ?_
    refine L_q (Q_move rfl) rfl rfl rfl ?_
    refine L_q (Q_nilCheck rfl) rfl rfl rfl ?_
    refine L_q (Q_fa0 rfl) rfl rfl rfl ?_
    refine L_q (Q_ld 0 rfl rfl rfl rfl) rfl rfl rfl ?_
    refine L_q (Q_move rfl) rfl rfl rfl ?_
    refine L_s rfl rfl (O_mset (M := mB) 1 z true rfl rfl rfl rfl ?_)
    refine JL.norm ?_
    refine JL_nil ?_
    refine seqQ_normal ?_
    refine J_seq ?_
    refine J_block ?_
    refine J_loop (fun i : Nat × List (Int × Bool) => Beyond i.1 i.2 (L ++ [z])) (fun i => [(0, .pointer (some ⟨p, 0, none⟩))])
      (fun i => [winC p size i.1 r, mpC mB r i.2, F]) (fun i => i.2.length) (base, mset m z true) (h.add z (by omega)) ⟨rfl, trivial⟩ (Ent.refl _) ?_
    rintro ⟨b, m2⟩ hB
    dsimp only at hB ⊢
    have hv2 := mget_val _ (hB.val (b : Int))
    have hbl : b ≤ (L ++ [z]).length := pigeon _ b hB.below
    by_cases h4 : (b : Int) ∈ L ++ [z]
    · have hg : (mget m2 (b : Int)).isSome = true := by rw [hB.at', if_pos ⟨Int.le_refl _, h4⟩]; rfl
      have hml := mdel_len m2 (b : Int) hg
      refine J_seq ?_
      refine J_seq ?_
      refine J_drawL [0, 1, 2, 3, 4, 5, 6, 7, 8] (.quiet 0 (.quiet 1 (.quiet 2 (.quiet 3 (.quiet 4 (.quiet 5 (.quiet 6 (.quiet 7 (.quiet 8 .done))))))))) Try.mixed (by kernel_rfl) (by kernel_rfl) (by repeat (first | exact retQ_noP | refine seqQ_noP ?_ | refine blockQ_noP ?_ | refine loopQ_noP ?_ | refine scopeQ_noP ?_ | (intro _ _ _ h; cases h.1))) ?_
      refine S_q (Ent.refl _) rfl (Q_move rfl) rfl rfl rfl ?_
      refine S_q (Ent.refl _) rfl (Q_nilCheck rfl) rfl rfl rfl ?_
      refine S_q (Ent.refl _) rfl (Q_fa0 rfl) rfl rfl rfl ?_
      refine S_q (Ent.refl _) rfl (Q_ld 0 rfl rfl rfl rfl) rfl rfl rfl ?_
      refine S_q (Ent.refl _) rfl (Q_move rfl) rfl rfl rfl ?_
      refine S_q (Ent.refl _) rfl (Q_nilCheck rfl) rfl rfl rfl ?_
      refine S_q (Ent.refl _) rfl (Q_fa0 rfl) rfl rfl rfl ?_
      refine S_q (Ent.refl _) rfl (Q_ld 0 rfl rfl rfl rfl) rfl rfl rfl ?_
      refine S_q (Ent.refl _) rfl ((Q_mget (M := mB) 1 (b : Int) rfl rfl rfl).as (v' := .bool true) (by rw [hv2, hg])) rfl rfl rfl ?_
      refine S_nil ?_
      refine seqQ_normal ?_
      refine J_condT rfl ?_
      refine J_skip ?_
      refine seqQ_normal ?_
      refine J_block ?_
      refine J_seq ?_
      refine J_drawH [0] [0, 1, 2, 3, 4, 5, 6, 7] (.quiet 0 (.quiet 1 (.quiet 2 (.quiet 3 (.quiet 4 (.quiet 5 (.quiet 6 (.quiet 7 (.loud 8 .done))))))))) Try.mixed (by kernel_rfl) (by kernel_rfl) (by repeat (first | exact retQ_noP | refine seqQ_noP ?_ | refine blockQ_noP ?_ | refine loopQ_noP ?_ | refine scopeQ_noP ?_ | (intro _ _ _ h; cases h.1))) ?_
      refine S_q (Ent.re [0] rfl) rfl (Q_move rfl) rfl rfl rfl ?_
      refine S_q (Ent.re [0] rfl) rfl (Q_nilCheck rfl) rfl rfl rfl ?_
      refine S_q (Ent.re [0] rfl) rfl (Q_fa0 rfl) rfl rfl rfl ?_
      refine S_q (Ent.re [0] rfl) rfl (Q_ld 0 rfl rfl rfl rfl) rfl rfl rfl ?_
      refine S_q (Ent.re [0] rfl) rfl (Q_move rfl) rfl rfl rfl ?_
      refine S_q (Ent.re [0] rfl) rfl (Q_nilCheck rfl) rfl rfl rfl ?_
      refine S_q (Ent.re [0] rfl) rfl (Q_fa0 rfl) rfl rfl rfl ?_
      refine S_q (Ent.re [0] rfl) rfl (Q_ld 0 rfl rfl rfl rfl) rfl rfl rfl ?_
      refine S_s rfl rfl rfl (O_mdel (M := mB) 1 (b : Int) rfl rfl rfl ⟨_, fun _ => ⟨Ent.reN [0] rfl, Ent.refl _⟩, ?_⟩)
      refine JS.norm ?_
      refine S_nil ?_
      refine seqQ_normal ?_
      refine J_region ?_
      refine L_q (Q_move rfl) rfl rfl rfl ?_
      refine L_q (Q_nilCheck rfl) rfl rfl rfl ?_
      refine L_q (Q_fa0 rfl) rfl rfl rfl ?_
      refine L_q (Q_ld 0 rfl rfl rfl rfl) rfl rfl rfl ?_
      refine L_q (Q_add rfl rfl (by first | exact IntWalk.i64_in _ (by omega) | exact IntWalk.u8_in _ (by omega) | exact IntWalk.u32_in _ (by omega) | exact IntWalk.u64_in _ (by omega) | rfl)) rfl rfl rfl ?_
      refine L_q (Q_nilCheck rfl) rfl rfl rfl ?_
      refine L_q (Q_fa0 rfl) rfl rfl rfl ?_
      refine L_s rfl rfl (O_st1 0 rfl rfl rfl rfl rfl ?_)
      refine JL.norm ?_
      refine JL_nil ?_
      refine blockQ_normal ?_
      exact loopQ_normal (b + 1, mdel m2 (b : Int)) (hB.step h4) (by simp only; omega) ⟨rfl, trivial⟩ (Ent.refl _)
    · have hg : (mget m2 (b : Int)).isSome = false := by rw [hB.at', if_neg (fun h => h4 h.2)]; rfl
      have hbb := baseOf_eq (L ++ [z]) b hB.below h4
      refine J_seq ?_
      refine J_seq ?_
      refine J_drawL [0, 1, 2, 3, 4, 5, 6, 7, 8] (.quiet 0 (.quiet 1 (.quiet 2 (.quiet 3 (.quiet 4 (.quiet 5 (.quiet 6 (.quiet 7 (.quiet 8 .done))))))))) Try.mixed (by kernel_rfl) (by kernel_rfl) (by repeat (first | exact retQ_noP | refine seqQ_noP ?_ | refine blockQ_noP ?_ | refine loopQ_noP ?_ | refine scopeQ_noP ?_ | (intro _ _ _ h; cases h.1))) ?_
      refine S_q (Ent.refl _) rfl (Q_move rfl) rfl rfl rfl ?_
      refine S_q (Ent.refl _) rfl (Q_nilCheck rfl) rfl rfl rfl ?_
      refine S_q (Ent.refl _) rfl (Q_fa0 rfl) rfl rfl rfl ?_
      refine S_q (Ent.refl _) rfl (Q_ld 0 rfl rfl rfl rfl) rfl rfl rfl ?_
      refine S_q (Ent.refl _) rfl (Q_move rfl) rfl rfl rfl ?_
      refine S_q (Ent.refl _) rfl (Q_nilCheck rfl) rfl rfl rfl ?_
      refine S_q (Ent.refl _) rfl (Q_fa0 rfl) rfl rfl rfl ?_
      refine S_q (Ent.refl _) rfl (Q_ld 0 rfl rfl rfl rfl) rfl rfl rfl ?_
      refine S_q (Ent.refl _) rfl ((Q_mget (M := mB) 1 (b : Int) rfl rfl rfl).as (v' := .bool false) (by rw [hv2, hg])) rfl rfl rfl ?_
      refine S_nil ?_
      refine seqQ_normal ?_
      refine J_condF rfl ?_
      refine J_exit ?_
      refine seqQ_exit ?_
      refine loopQ_exit ?_
      refine blockQ_hit ?_
      refine seqQ_normal ?_
      refine J_seq ?_
      refine J_region ?_
      refine L_q (Q_assign rfl) rfl rfl rfl ?_
      refine JL_nil ?_
      refine seqQ_normal ?_
      refine J_ret ?_
      rw [← hbb]
      exact retQ_ret _ [winC p size b r, mpC mB r m2] (.cons (RV_tmp rfl) .nil) ⟨m2, rfl, hB, rfl⟩ (Ent.refl _)
end Go.Proofs
