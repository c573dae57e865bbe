/- Pairs, and pointers to nodes: inserted, deleted, copied. -/
import Derived.Lib.SliceRun
import Derived.Test.YtihlnjafeocbnaaFacts
import Derived.Test.YtihlnjafeocbnaaSl13
import Derived.Test.YtihlnjafeocbnaaSl16
import Derived.Test.YtihlnjafeocbnaaSl18
import Derived.Test.YtihlnjafeocbnaaSl21
import Derived.Test.YtihlnjafeocbnaaTreeP2
set_option autoImplicit false
namespace Go.SL
theorem Q_slnil {P : Program} {E : World} {n : Nat} {ρ : Env} {L : List HProp} {dst : Option Tmp} {ty : TypeId} {pos : String} {after : Array Edge} {g : Option (Nat × Bool)} {t t' e : Nat} {x y : Operand} {S : SV} [u : TyU P t (.slice e)] (hx : ρ.ev x = some S.v) (hy : ρ.ev y = some (.slice none 0 0)) : QOp P E n ⟨dst, .binOp .eql t x y t', ty, pos, after, g⟩ ρ L (.bool S.a.isNone) := fun c w ha _ =>
  run_binOp c w ha hx hy (by simp [eqGuard]) (Lib.run_eql_slice_nil w t e S.a S.n S.c 0 0 u.h)
end Go.SL
namespace Go.Proofs
open Go.SL
abbrev kvV (p : Kv) : List Value := [str p.key, str p.val]
def tKv : Ty Kv := ⟨48, 2, kvV, fun _ => rfl, by decide, fun a v hv => by simp [kvV] at hv; rcases hv with rfl | rfl <;> rfl⟩
instance : TyI Try.prog tKv.e 2 (.agg #[.string ⟨#[]⟩, .string ⟨#[]⟩]) 32 := inferInstanceAs (TyI Try.prog 48 2 (.agg #[.string ⟨#[]⟩, .string ⟨#[]⟩]) 32)
instance : TyU Try.prog 27 (.slice tKv.e) := inferInstanceAs (TyU Try.prog 27 (.slice 48))
abbrev ndV : Option Nat → Value
  | none => .pointer none
  | some p => .pointer (some ⟨p, 0, none⟩)
def tNd : Ty (Option Nat) := ⟨49, 1, fun p => [ndV p], fun _ => rfl, by decide, fun a v hv => by simp at hv; subst hv; cases a <;> rfl⟩
instance : TyI Try.prog tNd.e 1 (.pointer none) 8 := inferInstanceAs (TyI Try.prog 49 1 (.pointer none) 8)
instance : TyU Try.prog 50 (.slice tNd.e) := inferInstanceAs (TyU Try.prog 50 (.slice 49))
attribute [local irreducible] J JL QOp JOp seqQ blockQ loopQ retQ slc cel hex star pur stars Does RV Ent pAt scopeQ
theorem kvins_ok (E : World) (S T : SV) (l : List Kv) (x : Kv) (at' : Nat) (hat : at' ≤ l.length) (hl : l.length ≤ 100000) :
    Does Try.prog E 44 [S.v, .int .i64 (at' : Int), T.v] [slc tKv true S l, slcN tKv T [x]] fun v L => ∃ S' : SV, v = S'.v ∧ L = [slc tKv true S' (l.take at' ++ x :: l.drop at')] := by
  have hov : OvFn Try.prog 50 27 := ⟨_, 4, Try.func50, by kernel_rfl, by kernel_rfl, by kernel_rfl, by kernel_rfl⟩
  refine Does.of Try.func44 rfl Try.ntmps44 rfl rfl fun F => ?_
  refine J.norm ?_
  refine J.have (p := S.n = l.length ∧ S.n ≤ S.c ∧ (0 < S.c → ∃ g o, S.a = some ⟨g, o, none⟩) ∧ ∃ b, T = ⟨some ⟨b, 0, none⟩, 1, 1⟩) (fun w hs => ⟨(hs.rd 0 rfl).1, (hs.rd 0 rfl).2.1, hs.slcA 0 rfl, hs.slcT 1 rfl⟩) fun ⟨hSn, hSc, hSa, b, hT⟩ => ?_
  subst hT
  refine J_seq ?_
  refine J_region ?_
  refine L_q (Q_assign rfl) rfl rfl rfl ?_
  refine JL_nil ?_
  refine seqQ_normal ?_
  refine J_seq ?_
  refine J_region ?_
  refine L_q (Q_move rfl) rfl rfl rfl ?_
  refine L_q (Q_move rfl) rfl rfl rfl ?_
  refine L_q (Q_slLc (τ := tKv) at' l.length rfl rfl rfl hSn hat rfl) rfl rfl rfl ?_
  refine JL_nil ?_
  refine seqQ_normal ?_
  refine J_seq ?_
  refine J_region ?_
  refine L_q (Q_move rfl) rfl rfl rfl ?_
  refine L_q ((Q_lenV (S := ⟨some ⟨b, 0, none⟩, 1, 1⟩) rfl).as (v' := .int .i64 1) rfl) rfl rfl rfl ?_
  refine L_q (Q_assign rfl) rfl rfl rfl ?_
  refine JL_nil ?_
  refine seqQ_normal ?_
  refine J_seq ?_
  refine J_seq ?_
  refine J_region ?_
  refine L_q (Q_move rfl) rfl rfl rfl ?_
  refine L_q (Q_eql rfl rfl) rfl rfl rfl ?_
  refine JL_nil ?_
  refine seqQ_normal ?_
  refine J_condF rfl ?_
  refine J_skip ?_
  refine seqQ_normal ?_
  refine J_seq ?_
  refine J_region ?_
  refine L_q (Q_move rfl) rfl rfl rfl ?_
  refine L_q (Q_lenAt 0 rfl rfl) rfl rfl rfl ?_
  refine L_q (Q_assign rfl) rfl rfl rfl ?_
  refine JL_nil ?_
  refine seqQ_normal ?_
  refine J_seq ?_
  refine J_seq ?_
  refine J_region ?_
  refine L_q (Q_move rfl) rfl rfl rfl ?_
  refine L_q (Q_move rfl) rfl rfl rfl ?_
  refine L_q (Q_eql rfl rfl) rfl rfl rfl ?_
  refine JL_nil ?_
  refine seqQ_normal ?_
  refine J_condD rfl (fun h => ?_) (fun h => ?_)
  · obtain rfl : at' = l.length := by omega
    refine J_seq ?_
    refine J_region ?_
    refine L_q (Q_move rfl) rfl rfl rfl ?_
    refine L_q (Q_move rfl) rfl rfl rfl ?_
    refine L_o rfl rfl rfl (O_app (τ := tKv) 0 rfl (fun w h => h.rdN 1 rfl) rfl rfl rfl rfl (by simp only [List.length_singleton]; omega) (by decide) (fun S2 => ?_))
    refine JL.norm ?_
    refine L_q (Q_assign rfl) rfl rfl rfl ?_
    refine JL_nil ?_
    refine seqQ_normal ?_
    refine J_ret ?_
    refine seqQ_ret ?_
    exact retQ_ret _ [slc tKv true S2 (l ++ [x])] (.cons (RV_tmp rfl) .nil) ⟨S2, rfl, by rw [List.take_length, List.drop_length]⟩ (Ent.re [0, 2] rfl)
  have hlt : at' < l.length := by omega
  have hdl : (l.drop at').length = l.length - at' := by simp
  have htl : (l.take at').length = at' := by simp; omega
  refine J_skip ?_
  refine seqQ_normal ?_
  refine J_seq ?_
  refine J_seq ?_
  refine J_region ?_
  refine L_q (Q_move rfl) rfl rfl rfl ?_
  refine L_q (Q_move rfl) rfl rfl rfl ?_
  refine L_q (Q_add rfl rfl (by first | exact IntWalk.i64_in _ (by omega) | exact IntWalk.u8_in _ (by omega) | exact IntWalk.u32_in _ (by omega) | exact IntWalk.u64_in _ (by omega) | rfl)) rfl rfl rfl ?_
  refine L_q (Q_move rfl) rfl rfl rfl ?_
  refine L_q (Q_capV (S := S) rfl) rfl rfl rfl ?_
  refine L_q (Q_gtr rfl rfl) rfl rfl rfl ?_
  refine JL_nil ?_
  refine seqQ_normal ?_
  refine J_condD rfl (fun h => ?_) (fun h => ?_)
  · have hbig : S.c < l.length + 1 := by omega
    refine J_seq ?_
    refine J_region ?_
    refine L_q (Q_move rfl) rfl rfl rfl ?_
    refine L_q (Q_move rfl) rfl rfl rfl ?_
    refine L_q (Q_slHc (τ := tKv) at' rfl rfl rfl (by omega)) rfl rfl rfl ?_
    refine L_q (Q_move rfl) rfl rfl rfl ?_
    refine L_q (Q_move rfl) rfl rfl rfl ?_
    refine L_q (Q_add rfl rfl (by first | exact IntWalk.i64_in _ (by omega) | exact IntWalk.u8_in _ (by omega) | exact IntWalk.u32_in _ (by omega) | exact IntWalk.u64_in _ (by omega) | rfl)) rfl rfl rfl ?_
    refine L_q (Q_move rfl) rfl rfl rfl ?_
    refine L_q (Q_sub rfl rfl (by first | exact IntWalk.i64_in _ (by omega) | exact IntWalk.u8_in _ (by omega) | exact IntWalk.u32_in _ (by omega) | exact IntWalk.u64_in _ (by omega) | rfl)) rfl rfl rfl ?_
    refine L_o rfl rfl rfl (O_appZ (τ := tKv) 0 at' (l.length + 1 - at') (⟨[], []⟩ : Kv) rfl rfl rfl (by omega) rfl rfl hat (by omega) (by omega) (by decide) (fun S2 => ?_))
    refine JL.norm ?_
    refine L_q (Q_assign rfl) rfl rfl rfl ?_
    refine JL_nil ?_
    refine seqQ_normal ?_
    refine J_seq ?_
    refine J.have (p := S2.n = l.length + 1) (fun w hs => by have := (hs.rd 0 rfl).1; rw [this]; simp; omega) fun hS2 => ?_
    obtain ⟨a2, n2, c2⟩ := S2
    simp only at hS2
    subst hS2
    refine J.have (p := l.length + 1 ≤ c2) (fun w hs => (hs.rd 0 rfl).2.1) fun hc2 => ?_
    refine J_region ?_
    refine L_q (Q_move rfl) rfl rfl rfl ?_
    refine L_q (Q_move rfl) rfl rfl rfl ?_
    refine L_q (Q_slLc (τ := tKv) at' (l.length + 1) rfl rfl rfl rfl (by omega) rfl) rfl rfl rfl ?_
    refine L_q (Q_move rfl) rfl rfl rfl ?_
    refine L_o rfl rfl rfl (O_copy (τ := tKv) (T := ⟨some ⟨b, 0, none⟩, 1, 1⟩) (m := [x]) 0 at' (l.length + 1) rfl (fun w h => h.rdN 2 rfl) rfl rfl rfl (by simp; omega) (by simp; omega) (by simp; omega) ?_)
    refine JL.norm ?_
    refine JL_nil ?_
    refine seqQ_normal ?_
    refine J_seq ?_
    have e1 : (l.take at' ++ List.replicate (l.length + 1 - at') (⟨[], []⟩ : Kv)).take at' ++ [x] ++ (l.take at' ++ List.replicate (l.length + 1 - at') (⟨[], []⟩ : Kv)).drop (at' + [x].length) = l.take at' ++ [x] ++ List.replicate (l.length - at') (⟨[], []⟩ : Kv) := by
      rw [List.take_append_of_le_length (by omega), List.take_take, Nat.min_self, List.drop_append, List.drop_eq_nil_of_le (by rw [htl]; simp), htl, List.drop_replicate]
      simp
      omega
    have e2 : max (l.length + 1) (at' + [x].length) = l.length + 1 := by simp; omega
    rw [e1, e2]
    refine J_drawH [] [0, 1, 2, 3, 4, 5, 6, 7] (.quiet 0 (.quiet 1 (.quiet 2 (.quiet 3 (.quiet 4 (.quiet 5 (.quiet 6 (.quiet 7 (.loud 8 .done))))))))) Try.mixed (by kernel_rfl) (by kernel_rfl) (by repeat (first | exact retQ_noP | refine seqQ_noP ?_ | refine blockQ_noP ?_ | refine loopQ_noP ?_ | refine scopeQ_noP ?_ | (intro _ _ _ h; cases h.1))) ?_
    refine S_q (Ent.re [] rfl) rfl (Q_move rfl) rfl rfl rfl ?_
    refine S_q (Ent.re [] rfl) rfl (Q_move rfl) rfl rfl rfl ?_
    refine S_q (Ent.re [] rfl) rfl (Q_move rfl) rfl rfl rfl ?_
    refine S_q (Ent.re [] rfl) rfl (Q_add rfl rfl (by first | exact IntWalk.i64_in _ (by omega) | exact IntWalk.u8_in _ (by omega) | exact IntWalk.u32_in _ (by omega) | exact IntWalk.u64_in _ (by omega) | rfl)) rfl rfl rfl ?_
    refine S_q (Ent.re [] rfl) rfl (Q_slLc (τ := tKv) (at' + 1) (l.length + 1) rfl rfl (by omega) rfl (by omega) rfl) rfl rfl rfl ?_
    refine S_q (Ent.re [] rfl) rfl (Q_move rfl) rfl rfl rfl ?_
    refine S_q (Ent.re [] rfl) rfl (Q_move rfl) rfl rfl rfl ?_
    refine S_q (Ent.re [] rfl) rfl (Q_slLc (τ := tKv) at' l.length rfl rfl rfl hSn hat rfl) rfl rfl rfl ?_
    refine S_o rfl rfl rfl rfl (O_copy (τ := tKv) (T := S.sub tKv.sz at' l.length) (m := l.drop at') 0 (at' + 1) (l.length + 1) rfl (fun w h => (h.rd 1 rfl).dropN at' hat) rfl rfl rfl (by rw [hdl]; show min (l.length - at') _ = _; omega) (by simp; omega) (by rw [hdl]; simp only; omega) ⟨[], fun _ => ⟨Ent.re [] rfl, Ent.refl _⟩, ?_⟩)
    refine JS.norm ?_
    refine S_nil ?_
    refine seqQ_normal ?_
    refine J_seq ?_
    have e3 : (l.take at' ++ [x] ++ List.replicate (l.length - at') (⟨[], []⟩ : Kv)).take (at' + 1) ++ l.drop at' ++ (l.take at' ++ [x] ++ List.replicate (l.length - at') (⟨[], []⟩ : Kv)).drop (at' + 1 + (l.drop at').length) = l.take at' ++ x :: l.drop at' := by
      have a1 : (l.take at' ++ [x] ++ List.replicate (l.length - at') (⟨[], []⟩ : Kv)).take (at' + 1) = l.take at' ++ [x] := List.take_left' (by simp; omega)
      have a2 : (l.take at' ++ [x] ++ List.replicate (l.length - at') (⟨[], []⟩ : Kv)).drop (at' + 1 + (l.drop at').length) = [] := List.drop_eq_nil_of_le (by simp; omega)
      rw [a1, a2]
      simp
    have e4 : max (l.length + 1) (at' + 1 + (l.drop at').length) = l.length + 1 := by rw [hdl]; omega
    rw [e3, e4]
    refine J_region ?_
    refine L_q (Q_move rfl) rfl rfl rfl ?_
    refine L_q (Q_assign rfl) rfl rfl rfl ?_
    refine JL_nil ?_
    refine seqQ_normal ?_
    refine J_ret ?_
    refine seqQ_ret ?_
    exact retQ_ret _ [slc tKv true ⟨a2, l.length + 1, c2⟩ (l.take at' ++ x :: l.drop at')] (.cons (RV_tmp rfl) .nil) ⟨_, rfl, rfl⟩ (Ent.re [0, 3] rfl)
  · obtain ⟨g, o, hSA⟩ := hSa (by omega)
    clear hSa
    obtain ⟨aS, nS, cS⟩ := S
    simp only at hSn hSc hSA h
    subst hSn hSA
    have hroom : l.length + 1 ≤ cS := by omega
    refine J_skip ?_
    refine seqQ_normal ?_
    refine J_seq ?_
    refine J_region ?_
    refine L_q (Q_move rfl) rfl rfl rfl ?_
    refine L_q (Q_move rfl) rfl rfl rfl ?_
    refine L_q (Q_move rfl) rfl rfl rfl ?_
    refine L_q (Q_add rfl rfl (by first | exact IntWalk.i64_in _ (by omega) | exact IntWalk.u8_in _ (by omega) | exact IntWalk.u32_in _ (by omega) | exact IntWalk.u64_in _ (by omega) | rfl)) rfl rfl rfl ?_
    refine L_q ((Q_slHc (τ := tKv) (l.length + 1) rfl rfl rfl hroom).as (v' := SV.v ⟨some ⟨g, o, none⟩, l.length + 1, cS⟩) (by simp [SV.sub, addr_add])) rfl rfl rfl ?_
    refine L_q (Q_assign rfl) rfl rfl rfl ?_
    refine JL_nil ?_
    refine seqQ_normal ?_
    refine J_seq ?_
    refine J_seq ?_
    refine J_region ?_
    refine L_q (Q_move rfl) rfl rfl rfl ?_
    refine L_q (Q_move rfl) rfl rfl rfl ?_
    refine L_q (Q_move rfl) rfl rfl rfl ?_
    refine L_q (Q_move rfl) rfl rfl rfl ?_
    refine L_q (Q_add rfl rfl (by first | exact IntWalk.i64_in _ (by omega) | exact IntWalk.u8_in _ (by omega) | exact IntWalk.u32_in _ (by omega) | exact IntWalk.u64_in _ (by omega) | rfl)) rfl rfl rfl ?_
    refine L_q (Q_slLc (τ := tKv) (S := ⟨some ⟨g, o, none⟩, l.length + 1, cS⟩) (at' + 1) (l.length + 1) rfl rfl (by omega) rfl (by omega) rfl) rfl rfl rfl ?_
    refine L_o rfl rfl rfl (O_overlaps (τ := tKv) (S := ⟨some ⟨g, o, none⟩, l.length, cS⟩) (T := ⟨some ⟨b, 0, none⟩, 1, 1⟩) 1 0 (at' + 1) (l.length + 1) hov (by decide) rfl rfl rfl rfl rfl (by simp) (by simp only; omega) ?_)
    refine JL.norm ?_
    refine L_q (Q_not rfl) rfl rfl rfl ?_
    refine JL_nil ?_
    refine seqQ_normal ?_
    refine J_condT rfl ?_
    refine J_seq ?_
    refine J_drawH [] [0, 1, 2, 3, 4, 5, 6, 7] (.quiet 0 (.quiet 1 (.quiet 2 (.quiet 3 (.quiet 4 (.quiet 5 (.quiet 6 (.quiet 7 (.loud 8 .done))))))))) Try.mixed (by kernel_rfl) (by kernel_rfl) (by repeat (first | exact retQ_noP | refine seqQ_noP ?_ | refine blockQ_noP ?_ | refine loopQ_noP ?_ | refine scopeQ_noP ?_ | (intro _ _ _ h; cases h.1))) ?_
    refine S_q (Ent.re [] rfl) rfl (Q_move rfl) rfl rfl rfl ?_
    refine S_q (Ent.re [] rfl) rfl (Q_move rfl) rfl rfl rfl ?_
    refine S_q (Ent.re [] rfl) rfl (Q_move rfl) rfl rfl rfl ?_
    refine S_q (Ent.re [] rfl) rfl (Q_add rfl rfl (by first | exact IntWalk.i64_in _ (by omega) | exact IntWalk.u8_in _ (by omega) | exact IntWalk.u32_in _ (by omega) | exact IntWalk.u64_in _ (by omega) | rfl)) rfl rfl rfl ?_
    refine S_q (Ent.re [] rfl) rfl (Q_slLc (τ := tKv) (S := ⟨some ⟨g, o, none⟩, l.length + 1, cS⟩) (at' + 1) (l.length + 1) rfl rfl (by omega) rfl (by omega) rfl) rfl rfl rfl ?_
    refine S_q (Ent.re [] rfl) rfl (Q_move rfl) rfl rfl rfl ?_
    refine S_q (Ent.re [] rfl) rfl (Q_move rfl) rfl rfl rfl ?_
    refine S_q (Ent.re [] rfl) rfl (Q_slLc (τ := tKv) (S := ⟨some ⟨g, o, none⟩, l.length + 1, cS⟩) at' (l.length + 1) rfl rfl rfl rfl (by omega) rfl) rfl rfl rfl ?_
    refine S_o rfl rfl rfl rfl (O_copy (τ := tKv) (D := ⟨some ⟨g, o, none⟩, l.length, cS⟩) (T := SV.sub ⟨some ⟨g, o, none⟩, l.length + 1, cS⟩ tKv.sz at' (l.length + 1)) (m := l.drop at') 0 (at' + 1) (l.length + 1) rfl (fun w h => (h.rd 0 rfl).dropN at' hat) rfl rfl rfl (by rw [hdl]; show min (l.length + 1 - at') _ = _; omega) (by omega) (by rw [hdl]; simp only; omega) ⟨[], fun _ => ⟨Ent.re [] rfl, Ent.refl _⟩, ?_⟩)
    refine JS.norm ?_
    refine S_nil ?_
    refine seqQ_normal ?_
    refine J_seq ?_
    have e3 : l.take (at' + 1) ++ l.drop at' ++ l.drop (at' + 1 + (l.drop at').length) = l.take (at' + 1) ++ l.drop at' := by
      have a3 : l.drop (at' + 1 + (l.drop at').length) = [] := List.drop_eq_nil_of_le (by rw [hdl]; omega)
      rw [a3, List.append_nil]
    have e4 : max l.length (at' + 1 + (l.drop at').length) = l.length + 1 := by rw [hdl]; omega
    simp only [e3, e4]
    refine J_region ?_
    refine L_q (Q_move rfl) rfl rfl rfl ?_
    refine L_q (Q_move rfl) rfl rfl rfl ?_
    refine L_q (Q_slLc (τ := tKv) (S := ⟨some ⟨g, o, none⟩, l.length + 1, cS⟩) at' (l.length + 1) rfl rfl rfl rfl (by omega) rfl) rfl rfl rfl ?_
    refine L_q (Q_move rfl) rfl rfl rfl ?_
    refine L_o rfl rfl rfl (O_copy (τ := tKv) (T := ⟨some ⟨b, 0, none⟩, 1, 1⟩) (m := [x]) 0 at' (l.length + 1) rfl (fun w h => h.rdN 1 rfl) rfl rfl rfl (by simp; omega) (by simp; omega) (by simp; omega) ?_)
    refine JL.norm ?_
    refine JL_nil ?_
    refine seqQ_normal ?_
    refine J_seq ?_
    have e5 : (l.take (at' + 1) ++ l.drop at').take at' ++ [x] ++ (l.take (at' + 1) ++ l.drop at').drop (at' + [x].length) = l.take at' ++ x :: l.drop at' := by
      rw [List.take_append_of_le_length (by simp; omega), List.take_take, Nat.min_eq_left (by omega), List.drop_left' (by simp; omega)]
      simp
    have e6 : max (l.length + 1) (at' + [x].length) = l.length + 1 := by simp; omega
    simp only [e5, e6]
    refine J_region ?_
    refine L_q (Q_move rfl) rfl rfl rfl ?_
    refine L_q (Q_assign rfl) rfl rfl rfl ?_
    refine JL_nil ?_
    refine seqQ_normal ?_
    refine J_ret ?_
    refine seqQ_ret ?_
    exact retQ_ret _ [slc tKv true ⟨some ⟨g, o, none⟩, l.length + 1, cS⟩ (l.take at' ++ x :: l.drop at')] (.cons (RV_tmp rfl) .nil) ⟨_, rfl, rfl⟩ (Ent.re [0, 2] rfl)
theorem kvdel_ok (E : World) (S : SV) (l : List Kv) (i j : Nat) (hij : i ≤ j) (hj : j ≤ l.length) (hl : l.length ≤ 100000) :
    Does Try.prog E 38 [S.v, .int .i64 (i : Int), .int .i64 (j : Int)] [slc tKv true S l] fun v L => ∃ S' : SV, v = S'.v ∧ L = [slc tKv true S' (l.take i ++ l.drop j)] := by
  refine Does.of Try.func38 rfl Try.ntmps38 rfl rfl fun F => ?_
  refine J.norm ?_
  refine J.have (p := S.n = l.length ∧ S.n ≤ S.c) (fun w hs => ⟨(hs.rd 0 rfl).1, (hs.rd 0 rfl).2.1⟩) fun hS => ?_
  refine J_seq ?_
  refine J_region ?_
  refine L_q (Q_assign rfl) rfl rfl rfl ?_
  refine JL_nil ?_
  refine seqQ_normal ?_
  refine J_seq ?_
  refine J_region ?_
  refine L_q (Q_move rfl) rfl rfl rfl ?_
  refine L_q (Q_move rfl) rfl rfl rfl ?_
  refine L_q (Q_move rfl) rfl rfl rfl ?_
  refine L_q (Q_move rfl) rfl rfl rfl ?_
  refine L_q (Q_lenAt 0 rfl rfl) rfl rfl rfl ?_
  refine L_q (Q_sl3 (τ := tKv) i j l.length rfl rfl rfl rfl rfl rfl rfl hij hj (by omega) rfl) rfl rfl rfl ?_
  refine JL_nil ?_
  refine seqQ_normal ?_
  refine J_seq ?_
  refine J_seq ?_
  refine J_region ?_
  refine L_q (Q_move rfl) rfl rfl rfl ?_
  refine L_q (Q_move rfl) rfl rfl rfl ?_
  refine L_q (Q_eql rfl rfl) rfl rfl rfl ?_
  refine JL_nil ?_
  refine seqQ_normal ?_
  refine J_condD rfl (fun h => ?_) (fun h => ?_)
  · obtain rfl : i = j := by omega
    refine J_seq ?_
    refine J_region ?_
    refine L_q (Q_move rfl) rfl rfl rfl ?_
    refine L_q (Q_assign rfl) rfl rfl rfl ?_
    refine JL_nil ?_
    refine seqQ_normal ?_
    refine J_ret ?_
    refine seqQ_ret ?_
    exact retQ_ret _ [slc tKv true S l] (.cons (RV_tmp rfl) .nil) ⟨S, rfl, by rw [List.take_append_drop]⟩ (Ent.refl _)
  · have hm : (l.take l.length).drop j = l.drop j := by rw [List.take_length]
    have hlen : (l.take i ++ l.drop j).length = i + (l.length - j) := by simp; omega
    refine J_skip ?_
    refine seqQ_normal ?_
    refine J_seq ?_
    refine J_region ?_
    refine L_q (Q_move rfl) rfl rfl rfl ?_
    refine L_q (Q_lenAt 0 rfl rfl) rfl rfl rfl ?_
    refine L_q (Q_assign rfl) rfl rfl rfl ?_
    refine JL_nil ?_
    refine seqQ_normal ?_
    refine J_seq ?_
    refine J_drawH [] [0, 1, 2, 3, 4, 5, 7] (.quiet 0 (.quiet 1 (.quiet 2 (.quiet 3 (.quiet 4 (.quiet 5 (.loud 6 (.quiet 7 .done)))))))) Try.mixed (by kernel_rfl) (by kernel_rfl) (by repeat (first | exact retQ_noP | refine seqQ_noP ?_ | refine blockQ_noP ?_ | refine loopQ_noP ?_ | refine scopeQ_noP ?_ | (intro _ _ _ h; cases h.1))) ?_
    refine S_q (Ent.re [] rfl) rfl (Q_move rfl) rfl rfl rfl ?_
    refine S_q (Ent.re [] rfl) rfl (Q_move rfl) rfl rfl rfl ?_
    refine S_q (Ent.re [] rfl) rfl (Q_slHc (τ := tKv) i rfl rfl rfl (by omega)) rfl rfl rfl ?_
    refine S_q (Ent.re [] rfl) rfl (Q_move rfl) rfl rfl rfl ?_
    refine S_q (Ent.re [] rfl) rfl (Q_move rfl) rfl rfl rfl ?_
    refine S_q (Ent.re [] rfl) rfl (Q_slLc (τ := tKv) j l.length rfl rfl rfl hS.1 hj rfl) rfl rfl rfl ?_
    refine S_o rfl rfl rfl rfl (O_appIn (τ := tKv) 0 i rfl (fun w h => (h.rd 0 rfl).sub j l.length hj (Nat.le_refl _)) rfl rfl rfl (by omega) (by simp; omega) ⟨[], fun _ => ⟨Ent.re [] rfl, Ent.refl _⟩, ?_⟩)
    refine JS.norm ?_
    refine S_q (Ent.re [] rfl) rfl (Q_assign rfl) rfl rfl rfl ?_
    refine S_nil ?_
    refine seqQ_normal ?_
    refine J_seq ?_
    rw [hm]
    have hS' : (⟨(S.sub tKv.sz 0 i).a, i + (l.drop j).length, S.c⟩ : SV).c = S.c := rfl
    generalize (⟨(S.sub tKv.sz 0 i).a, i + (l.drop j).length, S.c⟩ : SV) = T at hS' ⊢
    refine J_region ?_
    refine L_q (Q_move rfl) rfl rfl rfl ?_
    refine L_q (Q_move rfl) rfl rfl rfl ?_
    refine L_q (Q_lenAt 0 rfl rfl) rfl rfl rfl ?_
    refine L_q (Q_move rfl) rfl rfl rfl ?_
    refine L_q (Q_slLHc (τ := tKv) (i + (l.length - j)) l.length rfl rfl rfl (by rw [hlen]) rfl (by omega) (by omega) rfl) rfl rfl rfl ?_
    refine L_s rfl rfl (O_clear (τ := tKv) 0 (i + (l.length - j)) l.length rfl rfl rfl rfl (by simp [Value.cells, Value.oneCell']) (by omega) (by omega) (by omega) ?_)
    refine JL.norm ?_
    refine JL_nil ?_
    refine seqQ_normal ?_
    refine J_seq ?_
    refine J_region ?_
    refine L_q (Q_move rfl) rfl rfl rfl ?_
    refine L_q (Q_assign rfl) rfl rfl rfl ?_
    refine JL_nil ?_
    refine seqQ_normal ?_
    refine J_ret ?_
    exact retQ_ret _ [slc tKv true T (l.take i ++ l.drop j)] (.cons (RV_tmp rfl) .nil) ⟨T, rfl, rfl⟩ (Ent.refl _)
theorem kvclone_ok (E : World) (S : SV) (l : List Kv) (hl : l.length ≤ 100000000) : Does Try.prog E 42 [S.v] [slc tKv true S l] fun v L => ∃ T : SV, v = T.v ∧ L = [slc tKv true S l, slc tKv true T l] := by
  refine Does.of Try.func42 rfl Try.ntmps42 rfl rfl fun F => ?_
  refine J.norm ?_
  refine J.have (p := S.n = l.length ∧ S.n ≤ S.c ∧ (0 < S.c → ∃ g o, S.a = some ⟨g, o, none⟩)) (fun w hs => ⟨(hs.rd 0 rfl).1, (hs.rd 0 rfl).2.1, hs.slcA 0 rfl⟩) fun ⟨hn, hc, ha⟩ => ?_
  refine J_seq ?_
  refine J_region ?_
  refine L_q (Q_assign rfl) rfl rfl rfl ?_
  refine JL_nil ?_
  refine seqQ_normal ?_
  refine J_seq ?_
  refine J_seq ?_
  cases h : S.a with
  | none =>
    have h0 : l = [] := List.eq_nil_of_length_eq_zero (by
      rcases Nat.eq_zero_or_pos S.c with h0 | h0
      · omega
      · obtain ⟨g, o, e⟩ := ha h0; rw [h] at e; cases e)
    subst h0
    refine J_region ?_
    refine L_q (Q_move rfl) rfl rfl rfl ?_
    refine L_q ((Q_slnil (S := S) rfl rfl).as (v' := .bool true) (by rw [h]; rfl)) rfl rfl rfl ?_
    refine JL_nil ?_
    refine seqQ_normal ?_
    refine J_condT rfl ?_
    refine J_seq ?_
    refine J_region ?_
    refine L_q (Q_assign rfl) rfl rfl rfl ?_
    refine JL_nil ?_
    refine seqQ_normal ?_
    refine J_ret ?_
    refine seqQ_ret ?_
    refine retQ_ret _ [slc tKv true S [], slc tKv true SV.nil []] (.cons (RV_tmp rfl) .nil) ⟨SV.nil, rfl, rfl⟩ ?_
    exact (Ent.mk fun _ _ h => (h.lay_nil tKv true : Sat _ _ (slc tKv true SV.nil [] :: _))).trans (Ent.re [1, 0, 2] rfl)
  | some a =>
    refine J_region ?_
    refine L_q (Q_move rfl) rfl rfl rfl ?_
    refine L_q ((Q_slnil (S := S) rfl rfl).as (v' := .bool false) (by rw [h]; rfl)) rfl rfl rfl ?_
    refine JL_nil ?_
    refine seqQ_normal ?_
    refine J_condF rfl ?_
    refine J_skip ?_
    refine seqQ_normal ?_
    refine J_seq ?_
    refine J_region ?_
    refine L_o rfl rfl rfl (O_litP (τ := tKv) (m := 0) (sz := 2) [] rfl rfl rfl rfl rfl rfl (by decide) (fun U => ?_))
    refine JL.norm ?_
    refine L_q (Q_move rfl) rfl rfl rfl ?_
    refine L_o rfl rfl rfl (O_app (τ := tKv) 0 rfl (fun w h => h.rd 1 rfl) rfl rfl rfl rfl (by simp; omega) (by decide) (fun T => ?_))
    refine JL.norm ?_
    refine L_q (Q_assign rfl) rfl rfl rfl ?_
    refine JL_nil ?_
    refine seqQ_normal ?_
    refine J_ret ?_
    exact retQ_ret _ [slc tKv true S l, slc tKv true T l] (.cons (RV_tmp rfl) .nil) ⟨T, rfl, rfl⟩ (Ent.re [1, 0, 2] rfl)
theorem ndins_ok (E : World) (S T : SV) (l : List (Option Nat)) (x : Option Nat) (at' : Nat) (hat : at' ≤ l.length) (hl : l.length ≤ 100000) :
    Does Try.prog E 45 [S.v, .int .i64 (at' : Int), T.v] [slc tNd true S l, slcN tNd T [x]] fun v L => ∃ S' : SV, v = S'.v ∧ L = [slc tNd true S' (l.take at' ++ x :: l.drop at')] := by
  have hov : OvFn Try.prog 52 50 := ⟨_, 4, Try.func52, by kernel_rfl, by kernel_rfl, by kernel_rfl, by kernel_rfl⟩
  refine Does.of Try.func45 rfl Try.ntmps45 rfl rfl fun F => ?_
  refine J.norm ?_
  refine J.have (p := S.n = l.length ∧ S.n ≤ S.c ∧ (0 < S.c → ∃ g o, S.a = some ⟨g, o, none⟩) ∧ ∃ b, T = ⟨some ⟨b, 0, none⟩, 1, 1⟩) (fun w hs => ⟨(hs.rd 0 rfl).1, (hs.rd 0 rfl).2.1, hs.slcA 0 rfl, hs.slcT 1 rfl⟩) fun ⟨hSn, hSc, hSa, b, hT⟩ => ?_
  subst hT
  refine J_seq ?_
  refine J_region ?_
  refine L_q (Q_assign rfl) rfl rfl rfl ?_
  refine JL_nil ?_
  refine seqQ_normal ?_
  refine J_seq ?_
  refine J_region ?_
  refine L_q (Q_move rfl) rfl rfl rfl ?_
  refine L_q (Q_move rfl) rfl rfl rfl ?_
  refine L_q (Q_slLc (τ := tNd) at' l.length rfl rfl rfl hSn hat rfl) rfl rfl rfl ?_
  refine JL_nil ?_
  refine seqQ_normal ?_
  refine J_seq ?_
  refine J_region ?_
  refine L_q (Q_move rfl) rfl rfl rfl ?_
  refine L_q ((Q_lenV (S := ⟨some ⟨b, 0, none⟩, 1, 1⟩) rfl).as (v' := .int .i64 1) rfl) rfl rfl rfl ?_
  refine L_q (Q_assign rfl) rfl rfl rfl ?_
  refine JL_nil ?_
  refine seqQ_normal ?_
  refine J_seq ?_
  refine J_seq ?_
  refine J_region ?_
  refine L_q (Q_move rfl) rfl rfl rfl ?_
  refine L_q (Q_eql rfl rfl) rfl rfl rfl ?_
  refine JL_nil ?_
  refine seqQ_normal ?_
  refine J_condF rfl ?_
  refine J_skip ?_
  refine seqQ_normal ?_
  refine J_seq ?_
  refine J_region ?_
  refine L_q (Q_move rfl) rfl rfl rfl ?_
  refine L_q (Q_lenAt 0 rfl rfl) rfl rfl rfl ?_
  refine L_q (Q_assign rfl) rfl rfl rfl ?_
  refine JL_nil ?_
  refine seqQ_normal ?_
  refine J_seq ?_
  refine J_seq ?_
  refine J_region ?_
  refine L_q (Q_move rfl) rfl rfl rfl ?_
  refine L_q (Q_move rfl) rfl rfl rfl ?_
  refine L_q (Q_eql rfl rfl) rfl rfl rfl ?_
  refine JL_nil ?_
  refine seqQ_normal ?_
  refine J_condD rfl (fun h => ?_) (fun h => ?_)
  · obtain rfl : at' = l.length := by omega
    refine J_seq ?_
    refine J_region ?_
    refine L_q (Q_move rfl) rfl rfl rfl ?_
    refine L_q (Q_move rfl) rfl rfl rfl ?_
    refine L_o rfl rfl rfl (O_app (τ := tNd) 0 rfl (fun w h => h.rdN 1 rfl) rfl rfl rfl rfl (by simp only [List.length_singleton]; omega) (by decide) (fun S2 => ?_))
    refine JL.norm ?_
    refine L_q (Q_assign rfl) rfl rfl rfl ?_
    refine JL_nil ?_
    refine seqQ_normal ?_
    refine J_ret ?_
    refine seqQ_ret ?_
    exact retQ_ret _ [slc tNd true S2 (l ++ [x])] (.cons (RV_tmp rfl) .nil) ⟨S2, rfl, by rw [List.take_length, List.drop_length]⟩ (Ent.re [0, 2] rfl)
  have hlt : at' < l.length := by omega
  have hdl : (l.drop at').length = l.length - at' := by simp
  have htl : (l.take at').length = at' := by simp; omega
  refine J_skip ?_
  refine seqQ_normal ?_
  refine J_seq ?_
  refine J_seq ?_
  refine J_region ?_
  refine L_q (Q_move rfl) rfl rfl rfl ?_
  refine L_q (Q_move rfl) rfl rfl rfl ?_
  refine L_q (Q_add rfl rfl (by first | exact IntWalk.i64_in _ (by omega) | exact IntWalk.u8_in _ (by omega) | exact IntWalk.u32_in _ (by omega) | exact IntWalk.u64_in _ (by omega) | rfl)) rfl rfl rfl ?_
  refine L_q (Q_move rfl) rfl rfl rfl ?_
  refine L_q (Q_capV (S := S) rfl) rfl rfl rfl ?_
  refine L_q (Q_gtr rfl rfl) rfl rfl rfl ?_
  refine JL_nil ?_
  refine seqQ_normal ?_
  refine J_condD rfl (fun h => ?_) (fun h => ?_)
  · have hbig : S.c < l.length + 1 := by omega
    refine J_seq ?_
    refine J_region ?_
    refine L_q (Q_move rfl) rfl rfl rfl ?_
    refine L_q (Q_move rfl) rfl rfl rfl ?_
    refine L_q (Q_slHc (τ := tNd) at' rfl rfl rfl (by omega)) rfl rfl rfl ?_
    refine L_q (Q_move rfl) rfl rfl rfl ?_
    refine L_q (Q_move rfl) rfl rfl rfl ?_
    refine L_q (Q_add rfl rfl (by first | exact IntWalk.i64_in _ (by omega) | exact IntWalk.u8_in _ (by omega) | exact IntWalk.u32_in _ (by omega) | exact IntWalk.u64_in _ (by omega) | rfl)) rfl rfl rfl ?_
    refine L_q (Q_move rfl) rfl rfl rfl ?_
    refine L_q (Q_sub rfl rfl (by first | exact IntWalk.i64_in _ (by omega) | exact IntWalk.u8_in _ (by omega) | exact IntWalk.u32_in _ (by omega) | exact IntWalk.u64_in _ (by omega) | rfl)) rfl rfl rfl ?_
    refine L_o rfl rfl rfl (O_appZ (τ := tNd) 0 at' (l.length + 1 - at') (none : Option Nat) rfl rfl rfl (by omega) rfl rfl hat (by omega) (by omega) (by decide) (fun S2 => ?_))
    refine JL.norm ?_
    refine L_q (Q_assign rfl) rfl rfl rfl ?_
    refine JL_nil ?_
    refine seqQ_normal ?_
    refine J_seq ?_
    refine J.have (p := S2.n = l.length + 1) (fun w hs => by have := (hs.rd 0 rfl).1; rw [this]; simp; omega) fun hS2 => ?_
    obtain ⟨a2, n2, c2⟩ := S2
    simp only at hS2
    subst hS2
    refine J.have (p := l.length + 1 ≤ c2) (fun w hs => (hs.rd 0 rfl).2.1) fun hc2 => ?_
    refine J_region ?_
    refine L_q (Q_move rfl) rfl rfl rfl ?_
    refine L_q (Q_move rfl) rfl rfl rfl ?_
    refine L_q (Q_slLc (τ := tNd) at' (l.length + 1) rfl rfl rfl rfl (by omega) rfl) rfl rfl rfl ?_
    refine L_q (Q_move rfl) rfl rfl rfl ?_
    refine L_o rfl rfl rfl (O_copy (τ := tNd) (T := ⟨some ⟨b, 0, none⟩, 1, 1⟩) (m := [x]) 0 at' (l.length + 1) rfl (fun w h => h.rdN 2 rfl) rfl rfl rfl (by simp; omega) (by simp; omega) (by simp; omega) ?_)
    refine JL.norm ?_
    refine JL_nil ?_
    refine seqQ_normal ?_
    refine J_seq ?_
    have e1 : (l.take at' ++ List.replicate (l.length + 1 - at') (none : Option Nat)).take at' ++ [x] ++ (l.take at' ++ List.replicate (l.length + 1 - at') (none : Option Nat)).drop (at' + [x].length) = l.take at' ++ [x] ++ List.replicate (l.length - at') (none : Option Nat) := by
      rw [List.take_append_of_le_length (by omega), List.take_take, Nat.min_self, List.drop_append, List.drop_eq_nil_of_le (by rw [htl]; simp), htl, List.drop_replicate]
      simp
      omega
    have e2 : max (l.length + 1) (at' + [x].length) = l.length + 1 := by simp; omega
    rw [e1, e2]
    refine J_drawH [] [0, 1, 2, 3, 4, 5, 6, 7] (.quiet 0 (.quiet 1 (.quiet 2 (.quiet 3 (.quiet 4 (.quiet 5 (.quiet 6 (.quiet 7 (.loud 8 .done))))))))) Try.mixed (by kernel_rfl) (by kernel_rfl) (by repeat (first | exact retQ_noP | refine seqQ_noP ?_ | refine blockQ_noP ?_ | refine loopQ_noP ?_ | refine scopeQ_noP ?_ | (intro _ _ _ h; cases h.1))) ?_
    refine S_q (Ent.re [] rfl) rfl (Q_move rfl) rfl rfl rfl ?_
    refine S_q (Ent.re [] rfl) rfl (Q_move rfl) rfl rfl rfl ?_
    refine S_q (Ent.re [] rfl) rfl (Q_move rfl) rfl rfl rfl ?_
    refine S_q (Ent.re [] rfl) rfl (Q_add rfl rfl (by first | exact IntWalk.i64_in _ (by omega) | exact IntWalk.u8_in _ (by omega) | exact IntWalk.u32_in _ (by omega) | exact IntWalk.u64_in _ (by omega) | rfl)) rfl rfl rfl ?_
    refine S_q (Ent.re [] rfl) rfl (Q_slLc (τ := tNd) (at' + 1) (l.length + 1) rfl rfl (by omega) rfl (by omega) rfl) rfl rfl rfl ?_
    refine S_q (Ent.re [] rfl) rfl (Q_move rfl) rfl rfl rfl ?_
    refine S_q (Ent.re [] rfl) rfl (Q_move rfl) rfl rfl rfl ?_
    refine S_q (Ent.re [] rfl) rfl (Q_slLc (τ := tNd) at' l.length rfl rfl rfl hSn hat rfl) rfl rfl rfl ?_
    refine S_o rfl rfl rfl rfl (O_copy (τ := tNd) (T := S.sub tNd.sz at' l.length) (m := l.drop at') 0 (at' + 1) (l.length + 1) rfl (fun w h => (h.rd 1 rfl).dropN at' hat) rfl rfl rfl (by rw [hdl]; show min (l.length - at') _ = _; omega) (by simp; omega) (by rw [hdl]; simp only; omega) ⟨[], fun _ => ⟨Ent.re [] rfl, Ent.refl _⟩, ?_⟩)
    refine JS.norm ?_
    refine S_nil ?_
    refine seqQ_normal ?_
    refine J_seq ?_
    have e3 : (l.take at' ++ [x] ++ List.replicate (l.length - at') (none : Option Nat)).take (at' + 1) ++ l.drop at' ++ (l.take at' ++ [x] ++ List.replicate (l.length - at') (none : Option Nat)).drop (at' + 1 + (l.drop at').length) = l.take at' ++ x :: l.drop at' := by
      have a1 : (l.take at' ++ [x] ++ List.replicate (l.length - at') (none : Option Nat)).take (at' + 1) = l.take at' ++ [x] := List.take_left' (by simp; omega)
      have a2 : (l.take at' ++ [x] ++ List.replicate (l.length - at') (none : Option Nat)).drop (at' + 1 + (l.drop at').length) = [] := List.drop_eq_nil_of_le (by simp; omega)
      rw [a1, a2]
      simp
    have e4 : max (l.length + 1) (at' + 1 + (l.drop at').length) = l.length + 1 := by rw [hdl]; omega
    rw [e3, e4]
    refine J_region ?_
    refine L_q (Q_move rfl) rfl rfl rfl ?_
    refine L_q (Q_assign rfl) rfl rfl rfl ?_
    refine JL_nil ?_
    refine seqQ_normal ?_
    refine J_ret ?_
    refine seqQ_ret ?_
    exact retQ_ret _ [slc tNd true ⟨a2, l.length + 1, c2⟩ (l.take at' ++ x :: l.drop at')] (.cons (RV_tmp rfl) .nil) ⟨_, rfl, rfl⟩ (Ent.re [0, 3] rfl)
  · obtain ⟨g, o, hSA⟩ := hSa (by omega)
    clear hSa
    obtain ⟨aS, nS, cS⟩ := S
    simp only at hSn hSc hSA h
    subst hSn hSA
    have hroom : l.length + 1 ≤ cS := by omega
    refine J_skip ?_
    refine seqQ_normal ?_
    refine J_seq ?_
    refine J_region ?_
    refine L_q (Q_move rfl) rfl rfl rfl ?_
    refine L_q (Q_move rfl) rfl rfl rfl ?_
    refine L_q (Q_move rfl) rfl rfl rfl ?_
    refine L_q (Q_add rfl rfl (by first | exact IntWalk.i64_in _ (by omega) | exact IntWalk.u8_in _ (by omega) | exact IntWalk.u32_in _ (by omega) | exact IntWalk.u64_in _ (by omega) | rfl)) rfl rfl rfl ?_
    refine L_q ((Q_slHc (τ := tNd) (l.length + 1) rfl rfl rfl hroom).as (v' := SV.v ⟨some ⟨g, o, none⟩, l.length + 1, cS⟩) (by simp [SV.sub, addr_add])) rfl rfl rfl ?_
    refine L_q (Q_assign rfl) rfl rfl rfl ?_
    refine JL_nil ?_
    refine seqQ_normal ?_
    refine J_seq ?_
    refine J_seq ?_
    refine J_region ?_
    refine L_q (Q_move rfl) rfl rfl rfl ?_
    refine L_q (Q_move rfl) rfl rfl rfl ?_
    refine L_q (Q_move rfl) rfl rfl rfl ?_
    refine L_q (Q_move rfl) rfl rfl rfl ?_
    refine L_q (Q_add rfl rfl (by first | exact IntWalk.i64_in _ (by omega) | exact IntWalk.u8_in _ (by omega) | exact IntWalk.u32_in _ (by omega) | exact IntWalk.u64_in _ (by omega) | rfl)) rfl rfl rfl ?_
    refine L_q (Q_slLc (τ := tNd) (S := ⟨some ⟨g, o, none⟩, l.length + 1, cS⟩) (at' + 1) (l.length + 1) rfl rfl (by omega) rfl (by omega) rfl) rfl rfl rfl ?_
    refine L_o rfl rfl rfl (O_overlaps (τ := tNd) (S := ⟨some ⟨g, o, none⟩, l.length, cS⟩) (T := ⟨some ⟨b, 0, none⟩, 1, 1⟩) 1 0 (at' + 1) (l.length + 1) hov (by decide) rfl rfl rfl rfl rfl (by simp) (by simp only; omega) ?_)
    refine JL.norm ?_
    refine L_q (Q_not rfl) rfl rfl rfl ?_
    refine JL_nil ?_
    refine seqQ_normal ?_
    refine J_condT rfl ?_
    refine J_seq ?_
    refine J_drawH [] [0, 1, 2, 3, 4, 5, 6, 7] (.quiet 0 (.quiet 1 (.quiet 2 (.quiet 3 (.quiet 4 (.quiet 5 (.quiet 6 (.quiet 7 (.loud 8 .done))))))))) Try.mixed (by kernel_rfl) (by kernel_rfl) (by repeat (first | exact retQ_noP | refine seqQ_noP ?_ | refine blockQ_noP ?_ | refine loopQ_noP ?_ | refine scopeQ_noP ?_ | (intro _ _ _ h; cases h.1))) ?_
    refine S_q (Ent.re [] rfl) rfl (Q_move rfl) rfl rfl rfl ?_
    refine S_q (Ent.re [] rfl) rfl (Q_move rfl) rfl rfl rfl ?_
    refine S_q (Ent.re [] rfl) rfl (Q_move rfl) rfl rfl rfl ?_
    refine S_q (Ent.re [] rfl) rfl (Q_add rfl rfl (by first | exact IntWalk.i64_in _ (by omega) | exact IntWalk.u8_in _ (by omega) | exact IntWalk.u32_in _ (by omega) | exact IntWalk.u64_in _ (by omega) | rfl)) rfl rfl rfl ?_
    refine S_q (Ent.re [] rfl) rfl (Q_slLc (τ := tNd) (S := ⟨some ⟨g, o, none⟩, l.length + 1, cS⟩) (at' + 1) (l.length + 1) rfl rfl (by omega) rfl (by omega) rfl) rfl rfl rfl ?_
    refine S_q (Ent.re [] rfl) rfl (Q_move rfl) rfl rfl rfl ?_
    refine S_q (Ent.re [] rfl) rfl (Q_move rfl) rfl rfl rfl ?_
    refine S_q (Ent.re [] rfl) rfl (Q_slLc (τ := tNd) (S := ⟨some ⟨g, o, none⟩, l.length + 1, cS⟩) at' (l.length + 1) rfl rfl rfl rfl (by omega) rfl) rfl rfl rfl ?_
    refine S_o rfl rfl rfl rfl (O_copy (τ := tNd) (D := ⟨some ⟨g, o, none⟩, l.length, cS⟩) (T := SV.sub ⟨some ⟨g, o, none⟩, l.length + 1, cS⟩ tNd.sz at' (l.length + 1)) (m := l.drop at') 0 (at' + 1) (l.length + 1) rfl (fun w h => (h.rd 0 rfl).dropN at' hat) rfl rfl rfl (by rw [hdl]; show min (l.length + 1 - at') _ = _; omega) (by omega) (by rw [hdl]; simp only; omega) ⟨[], fun _ => ⟨Ent.re [] rfl, Ent.refl _⟩, ?_⟩)
    refine JS.norm ?_
    refine S_nil ?_
    refine seqQ_normal ?_
    refine J_seq ?_
    have e3 : l.take (at' + 1) ++ l.drop at' ++ l.drop (at' + 1 + (l.drop at').length) = l.take (at' + 1) ++ l.drop at' := by
      have a3 : l.drop (at' + 1 + (l.drop at').length) = [] := List.drop_eq_nil_of_le (by rw [hdl]; omega)
      rw [a3, List.append_nil]
    have e4 : max l.length (at' + 1 + (l.drop at').length) = l.length + 1 := by rw [hdl]; omega
    simp only [e3, e4]
    refine J_region ?_
    refine L_q (Q_move rfl) rfl rfl rfl ?_
    refine L_q (Q_move rfl) rfl rfl rfl ?_
    refine L_q (Q_slLc (τ := tNd) (S := ⟨some ⟨g, o, none⟩, l.length + 1, cS⟩) at' (l.length + 1) rfl rfl rfl rfl (by omega) rfl) rfl rfl rfl ?_
    refine L_q (Q_move rfl) rfl rfl rfl ?_
    refine L_o rfl rfl rfl (O_copy (τ := tNd) (T := ⟨some ⟨b, 0, none⟩, 1, 1⟩) (m := [x]) 0 at' (l.length + 1) rfl (fun w h => h.rdN 1 rfl) rfl rfl rfl (by simp; omega) (by simp; omega) (by simp; omega) ?_)
    refine JL.norm ?_
    refine JL_nil ?_
    refine seqQ_normal ?_
    refine J_seq ?_
    have e5 : (l.take (at' + 1) ++ l.drop at').take at' ++ [x] ++ (l.take (at' + 1) ++ l.drop at').drop (at' + [x].length) = l.take at' ++ x :: l.drop at' := by
      rw [List.take_append_of_le_length (by simp; omega), List.take_take, Nat.min_eq_left (by omega), List.drop_left' (by simp; omega)]
      simp
    have e6 : max (l.length + 1) (at' + [x].length) = l.length + 1 := by simp; omega
    simp only [e5, e6]
    refine J_region ?_
    refine L_q (Q_move rfl) rfl rfl rfl ?_
    refine L_q (Q_assign rfl) rfl rfl rfl ?_
    refine JL_nil ?_
    refine seqQ_normal ?_
    refine J_ret ?_
    refine seqQ_ret ?_
    exact retQ_ret _ [slc tNd true ⟨some ⟨g, o, none⟩, l.length + 1, cS⟩ (l.take at' ++ x :: l.drop at')] (.cons (RV_tmp rfl) .nil) ⟨_, rfl, rfl⟩ (Ent.re [0, 2] rfl)
theorem nddel_ok (E : World) (S : SV) (l : List (Option Nat)) (i j : Nat) (hij : i ≤ j) (hj : j ≤ l.length) (hl : l.length ≤ 100000) :
    Does Try.prog E 49 [S.v, .int .i64 (i : Int), .int .i64 (j : Int)] [slc tNd true S l] fun v L => ∃ S' : SV, v = S'.v ∧ L = [slc tNd true S' (l.take i ++ l.drop j)] := by
  refine Does.of Try.func49 rfl Try.ntmps49 rfl rfl fun F => ?_
  refine J.norm ?_
  refine J.have (p := S.n = l.length ∧ S.n ≤ S.c) (fun w hs => ⟨(hs.rd 0 rfl).1, (hs.rd 0 rfl).2.1⟩) fun hS => ?_
  refine J_seq ?_
  refine J_region ?_
  refine L_q (Q_assign rfl) rfl rfl rfl ?_
  refine JL_nil ?_
  refine seqQ_normal ?_
  refine J_seq ?_
  refine J_region ?_
  refine L_q (Q_move rfl) rfl rfl rfl ?_
  refine L_q (Q_move rfl) rfl rfl rfl ?_
  refine L_q (Q_move rfl) rfl rfl rfl ?_
  refine L_q (Q_move rfl) rfl rfl rfl ?_
  refine L_q (Q_lenAt 0 rfl rfl) rfl rfl rfl ?_
  refine L_q (Q_sl3 (τ := tNd) i j l.length rfl rfl rfl rfl rfl rfl rfl hij hj (by omega) rfl) rfl rfl rfl ?_
  refine JL_nil ?_
  refine seqQ_normal ?_
  refine J_seq ?_
  refine J_seq ?_
  refine J_region ?_
  refine L_q (Q_move rfl) rfl rfl rfl ?_
  refine L_q (Q_move rfl) rfl rfl rfl ?_
  refine L_q (Q_eql rfl rfl) rfl rfl rfl ?_
  refine JL_nil ?_
  refine seqQ_normal ?_
  refine J_condD rfl (fun h => ?_) (fun h => ?_)
  · obtain rfl : i = j := by omega
    refine J_seq ?_
    refine J_region ?_
    refine L_q (Q_move rfl) rfl rfl rfl ?_
    refine L_q (Q_assign rfl) rfl rfl rfl ?_
    refine JL_nil ?_
    refine seqQ_normal ?_
    refine J_ret ?_
    refine seqQ_ret ?_
    exact retQ_ret _ [slc tNd true S l] (.cons (RV_tmp rfl) .nil) ⟨S, rfl, by rw [List.take_append_drop]⟩ (Ent.refl _)
  · have hm : (l.take l.length).drop j = l.drop j := by rw [List.take_length]
    have hlen : (l.take i ++ l.drop j).length = i + (l.length - j) := by simp; omega
    refine J_skip ?_
    refine seqQ_normal ?_
    refine J_seq ?_
    refine J_region ?_
    refine L_q (Q_move rfl) rfl rfl rfl ?_
    refine L_q (Q_lenAt 0 rfl rfl) rfl rfl rfl ?_
    refine L_q (Q_assign rfl) rfl rfl rfl ?_
    refine JL_nil ?_
    refine seqQ_normal ?_
    refine J_seq ?_
    refine J_drawH [] [0, 1, 2, 3, 4, 5, 7] (.quiet 0 (.quiet 1 (.quiet 2 (.quiet 3 (.quiet 4 (.quiet 5 (.loud 6 (.quiet 7 .done)))))))) Try.mixed (by kernel_rfl) (by kernel_rfl) (by repeat (first | exact retQ_noP | refine seqQ_noP ?_ | refine blockQ_noP ?_ | refine loopQ_noP ?_ | refine scopeQ_noP ?_ | (intro _ _ _ h; cases h.1))) ?_
    refine S_q (Ent.re [] rfl) rfl (Q_move rfl) rfl rfl rfl ?_
    refine S_q (Ent.re [] rfl) rfl (Q_move rfl) rfl rfl rfl ?_
    refine S_q (Ent.re [] rfl) rfl (Q_slHc (τ := tNd) i rfl rfl rfl (by omega)) rfl rfl rfl ?_
    refine S_q (Ent.re [] rfl) rfl (Q_move rfl) rfl rfl rfl ?_
    refine S_q (Ent.re [] rfl) rfl (Q_move rfl) rfl rfl rfl ?_
    refine S_q (Ent.re [] rfl) rfl (Q_slLc (τ := tNd) j l.length rfl rfl rfl hS.1 hj rfl) rfl rfl rfl ?_
    refine S_o rfl rfl rfl rfl (O_appIn (τ := tNd) 0 i rfl (fun w h => (h.rd 0 rfl).sub j l.length hj (Nat.le_refl _)) rfl rfl rfl (by omega) (by simp; omega) ⟨[], fun _ => ⟨Ent.re [] rfl, Ent.refl _⟩, ?_⟩)
    refine JS.norm ?_
    refine S_q (Ent.re [] rfl) rfl (Q_assign rfl) rfl rfl rfl ?_
    refine S_nil ?_
    refine seqQ_normal ?_
    refine J_seq ?_
    rw [hm]
    have hS' : (⟨(S.sub tNd.sz 0 i).a, i + (l.drop j).length, S.c⟩ : SV).c = S.c := rfl
    generalize (⟨(S.sub tNd.sz 0 i).a, i + (l.drop j).length, S.c⟩ : SV) = T at hS' ⊢
    refine J_region ?_
    refine L_q (Q_move rfl) rfl rfl rfl ?_
    refine L_q (Q_move rfl) rfl rfl rfl ?_
    refine L_q (Q_lenAt 0 rfl rfl) rfl rfl rfl ?_
    refine L_q (Q_move rfl) rfl rfl rfl ?_
    refine L_q (Q_slLHc (τ := tNd) (i + (l.length - j)) l.length rfl rfl rfl (by rw [hlen]) rfl (by omega) (by omega) rfl) rfl rfl rfl ?_
    refine L_s rfl rfl (O_clear (τ := tNd) 0 (i + (l.length - j)) l.length rfl rfl rfl rfl (by simp [Value.cells, Value.oneCell']) (by omega) (by omega) (by omega) ?_)
    refine JL.norm ?_
    refine JL_nil ?_
    refine seqQ_normal ?_
    refine J_seq ?_
    refine J_region ?_
    refine L_q (Q_move rfl) rfl rfl rfl ?_
    refine L_q (Q_assign rfl) rfl rfl rfl ?_
    refine JL_nil ?_
    refine seqQ_normal ?_
    refine J_ret ?_
    exact retQ_ret _ [slc tNd true T (l.take i ++ l.drop j)] (.cons (RV_tmp rfl) .nil) ⟨T, rfl, rfl⟩ (Ent.refl _)
theorem ndclone_ok (E : World) (S : SV) (l : List (Option Nat)) (hl : l.length ≤ 100000000) : Does Try.prog E 43 [S.v] [slc tNd true S l] fun v L => ∃ T : SV, v = T.v ∧ L = [slc tNd true S l, slc tNd true T l] := by
  refine Does.of Try.func43 rfl Try.ntmps43 rfl rfl fun F => ?_
  refine J.norm ?_
  refine J.have (p := S.n = l.length ∧ S.n ≤ S.c ∧ (0 < S.c → ∃ g o, S.a = some ⟨g, o, none⟩)) (fun w hs => ⟨(hs.rd 0 rfl).1, (hs.rd 0 rfl).2.1, hs.slcA 0 rfl⟩) fun ⟨hn, hc, ha⟩ => ?_
  refine J_seq ?_
  refine J_region ?_
  refine L_q (Q_assign rfl) rfl rfl rfl ?_
  refine JL_nil ?_
  refine seqQ_normal ?_
  refine J_seq ?_
  refine J_seq ?_
  cases h : S.a with
  | none =>
    have h0 : l = [] := List.eq_nil_of_length_eq_zero (by
      rcases Nat.eq_zero_or_pos S.c with h0 | h0
      · omega
      · obtain ⟨g, o, e⟩ := ha h0; rw [h] at e; cases e)
    subst h0
    refine J_region ?_
    refine L_q (Q_move rfl) rfl rfl rfl ?_
    refine L_q ((Q_slnil (S := S) rfl rfl).as (v' := .bool true) (by rw [h]; rfl)) rfl rfl rfl ?_
    refine JL_nil ?_
    refine seqQ_normal ?_
    refine J_condT rfl ?_
    refine J_seq ?_
    refine J_region ?_
    refine L_q (Q_assign rfl) rfl rfl rfl ?_
    refine JL_nil ?_
    refine seqQ_normal ?_
    refine J_ret ?_
    refine seqQ_ret ?_
    refine retQ_ret _ [slc tNd true S [], slc tNd true SV.nil []] (.cons (RV_tmp rfl) .nil) ⟨SV.nil, rfl, rfl⟩ ?_
    exact (Ent.mk fun _ _ h => (h.lay_nil tNd true : Sat _ _ (slc tNd true SV.nil [] :: _))).trans (Ent.re [1, 0, 2] rfl)
  | some a =>
    refine J_region ?_
    refine L_q (Q_move rfl) rfl rfl rfl ?_
    refine L_q ((Q_slnil (S := S) rfl rfl).as (v' := .bool false) (by rw [h]; rfl)) rfl rfl rfl ?_
    refine JL_nil ?_
    refine seqQ_normal ?_
    refine J_condF rfl ?_
    refine J_skip ?_
    refine seqQ_normal ?_
    refine J_seq ?_
    refine J_region ?_
    refine L_o rfl rfl rfl (O_litP (τ := tNd) (m := 0) (sz := 1) [] rfl rfl rfl rfl rfl rfl (by decide) (fun U => ?_))
    refine JL.norm ?_
    refine L_q (Q_move rfl) rfl rfl rfl ?_
    refine L_o rfl rfl rfl (O_app (τ := tNd) 0 rfl (fun w h => h.rd 1 rfl) rfl rfl rfl rfl (by simp; omega) (by decide) (fun T => ?_))
    refine JL.norm ?_
    refine L_q (Q_assign rfl) rfl rfl rfl ?_
    refine JL_nil ?_
    refine seqQ_normal ?_
    refine J_ret ?_
    exact retQ_ret _ [slc tNd true S l, slc tNd true T l] (.cons (RV_tmp rfl) .nil) ⟨T, rfl, rfl⟩ (Ent.re [1, 0, 2] rfl)
theorem kvcloneG (E : World) (C : HProp) (U : SV) (m : List Kv) (hC : ∀ w L, Sat E w (C :: L) → Rd tKv w U m) (hl : m.length ≤ 100000000) : Does Try.prog E 42 [U.v] [C] fun v L => ∃ V : SV, v = V.v ∧ L = [C, slc tKv true V m] := by
  refine Does.of Try.func42 rfl Try.ntmps42 rfl rfl fun F => ?_
  refine J.norm ?_
  refine J.have (p := U.n = m.length ∧ U.n ≤ U.c ∧ ((U.a = none ∧ U.c = 0) ∨ ∃ a, U.a = some a)) (fun w hs => ⟨(hC w _ hs).1, (hC w _ hs).2.1, (hC w _ hs).2.2.imp id fun ⟨a, h, _⟩ => ⟨a, h⟩⟩) fun ⟨hn, hc, ha⟩ => ?_
  refine J_seq ?_
  refine J_region ?_
  refine L_q (Q_assign rfl) rfl rfl rfl ?_
  refine JL_nil ?_
  refine seqQ_normal ?_
  refine J_seq ?_
  refine J_seq ?_
  cases h : U.a with
  | none =>
    have h0 : m = [] := List.eq_nil_of_length_eq_zero (by
      rcases ha with ⟨_, h0⟩ | ⟨a, h1⟩
      · omega
      · rw [h] at h1; cases h1)
    subst h0
    refine J_region ?_
    refine L_q (Q_move rfl) rfl rfl rfl ?_
    refine L_q ((Q_slnil (S := U) rfl rfl).as (v' := .bool true) (by rw [h]; rfl)) rfl rfl rfl ?_
    refine JL_nil ?_
    refine seqQ_normal ?_
    refine J_condT rfl ?_
    refine J_seq ?_
    refine J_region ?_
    refine L_q (Q_assign rfl) rfl rfl rfl ?_
    refine JL_nil ?_
    refine seqQ_normal ?_
    refine J_ret ?_
    refine seqQ_ret ?_
    refine retQ_ret _ [C, slc tKv true SV.nil []] (.cons (RV_tmp rfl) .nil) ⟨SV.nil, rfl, rfl⟩ ?_
    exact (Ent.mk fun _ _ h => (h.lay_nil tKv true : Sat _ _ (slc tKv true SV.nil [] :: _))).trans (Ent.re [1, 0, 2] rfl)
  | some a =>
    refine J_region ?_
    refine L_q (Q_move rfl) rfl rfl rfl ?_
    refine L_q ((Q_slnil (S := U) rfl rfl).as (v' := .bool false) (by rw [h]; rfl)) rfl rfl rfl ?_
    refine JL_nil ?_
    refine seqQ_normal ?_
    refine J_condF rfl ?_
    refine J_skip ?_
    refine seqQ_normal ?_
    refine J_seq ?_
    refine J_region ?_
    refine L_o rfl rfl rfl (O_litP (τ := tKv) (m := 0) (sz := 2) [] rfl rfl rfl rfl rfl rfl (by decide) (fun V => ?_))
    refine JL.norm ?_
    refine L_q (Q_move rfl) rfl rfl rfl ?_
    refine L_o rfl rfl rfl (O_app (τ := tKv) 0 rfl (fun w h => hC w _ ((h.pick [1] rfl) : Sat E w (pick [1] _))) rfl rfl rfl rfl (by simp; omega) (by decide) (fun W => ?_))
    refine JL.norm ?_
    refine L_q (Q_assign rfl) rfl rfl rfl ?_
    refine JL_nil ?_
    refine seqQ_normal ?_
    refine J_ret ?_
    exact retQ_ret _ [C, slc tKv true W m] (.cons (RV_tmp rfl) .nil) ⟨W, rfl, rfl⟩ (Ent.re [1, 0, 2] rfl)
theorem ndcloneG (E : World) (C : HProp) (U : SV) (m : List (Option Nat)) (hC : ∀ w L, Sat E w (C :: L) → Rd tNd w U m) (hl : m.length ≤ 100000000) : Does Try.prog E 43 [U.v] [C] fun v L => ∃ V : SV, v = V.v ∧ L = [C, slc tNd true V m] := by
  refine Does.of Try.func43 rfl Try.ntmps43 rfl rfl fun F => ?_
  refine J.norm ?_
  refine J.have (p := U.n = m.length ∧ U.n ≤ U.c ∧ ((U.a = none ∧ U.c = 0) ∨ ∃ a, U.a = some a)) (fun w hs => ⟨(hC w _ hs).1, (hC w _ hs).2.1, (hC w _ hs).2.2.imp id fun ⟨a, h, _⟩ => ⟨a, h⟩⟩) fun ⟨hn, hc, ha⟩ => ?_
  refine J_seq ?_
  refine J_region ?_
  refine L_q (Q_assign rfl) rfl rfl rfl ?_
  refine JL_nil ?_
  refine seqQ_normal ?_
  refine J_seq ?_
  refine J_seq ?_
  cases h : U.a with
  | none =>
    have h0 : m = [] := List.eq_nil_of_length_eq_zero (by
      rcases ha with ⟨_, h0⟩ | ⟨a, h1⟩
      · omega
      · rw [h] at h1; cases h1)
    subst h0
    refine J_region ?_
    refine L_q (Q_move rfl) rfl rfl rfl ?_
    refine L_q ((Q_slnil (S := U) rfl rfl).as (v' := .bool true) (by rw [h]; rfl)) rfl rfl rfl ?_
    refine JL_nil ?_
    refine seqQ_normal ?_
    refine J_condT rfl ?_
    refine J_seq ?_
    refine J_region ?_
    refine L_q (Q_assign rfl) rfl rfl rfl ?_
    refine JL_nil ?_
    refine seqQ_normal ?_
    refine J_ret ?_
    refine seqQ_ret ?_
    refine retQ_ret _ [C, slc tNd true SV.nil []] (.cons (RV_tmp rfl) .nil) ⟨SV.nil, rfl, rfl⟩ ?_
    exact (Ent.mk fun _ _ h => (h.lay_nil tNd true : Sat _ _ (slc tNd true SV.nil [] :: _))).trans (Ent.re [1, 0, 2] rfl)
  | some a =>
    refine J_region ?_
    refine L_q (Q_move rfl) rfl rfl rfl ?_
    refine L_q ((Q_slnil (S := U) rfl rfl).as (v' := .bool false) (by rw [h]; rfl)) rfl rfl rfl ?_
    refine JL_nil ?_
    refine seqQ_normal ?_
    refine J_condF rfl ?_
    refine J_skip ?_
    refine seqQ_normal ?_
    refine J_seq ?_
    refine J_region ?_
    refine L_o rfl rfl rfl (O_litP (τ := tNd) (m := 0) (sz := 1) [] rfl rfl rfl rfl rfl rfl (by decide) (fun V => ?_))
    refine JL.norm ?_
    refine L_q (Q_move rfl) rfl rfl rfl ?_
    refine L_o rfl rfl rfl (O_app (τ := tNd) 0 rfl (fun w h => hC w _ ((h.pick [1] rfl) : Sat E w (pick [1] _))) rfl rfl rfl rfl (by simp; omega) (by decide) (fun W => ?_))
    refine JL.norm ?_
    refine L_q (Q_assign rfl) rfl rfl rfl ?_
    refine JL_nil ?_
    refine seqQ_normal ?_
    refine J_ret ?_
    exact retQ_ret _ [C, slc tNd true W m] (.cons (RV_tmp rfl) .nil) ⟨W, rfl, rfl⟩ (Ent.re [1, 0, 2] rfl)
end Go.Proofs
