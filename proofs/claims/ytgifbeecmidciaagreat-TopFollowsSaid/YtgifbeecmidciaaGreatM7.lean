/- Part 7 of the texts below the row: TreeI, Tree1. -/
import Derived.Lib.SliceRun
import Derived.Laws.Externs
import Derived.Test.YtgifbeecmidciaaGreatM6
/- Pairs, and pointers to nodes: inserted, deleted, copied. -/
set_option autoImplicit false
namespace Go.SL
theorem Q_slnil {P : Program} {E : World} {n : Nat} {ρ : Env} {L : List HProp} {dst : Option Tmp} {ty : TypeId} {pos : String} {after : Array Edge} {g : Option (Nat × Bool)} {t t' e : Nat} {x y : Operand} {S : SV} [u : TyU P t (.slice e)] (hx : ρ.ev x = some S.v) (hy : ρ.ev y = some (.slice none 0 0)) : QOp P E n ⟨dst, .binOp .eql t x y t', ty, pos, after, g⟩ ρ L (.bool S.a.isNone) := fun c w ha _ =>
 run_binOp c w ha hx hy (by simp [eqGuard]) (Lib.run_eql_slice_nil w t e S.a S.n S.c 0 0 u.h)
end Go.SL
namespace Go.Proofs.Bt
open Go.SL
abbrev kvV (p : Kv) : List Value := [str p.key, str p.val]
def tKv : Ty Kv := ⟨111, 2, kvV, fun _ => rfl, by decide, fun a v hv => by simp [kvV] at hv; rcases hv with rfl | rfl <;> rfl⟩
instance : TyI Tryz.prog tKv.e 2 (.agg #[.string ⟨#[]⟩, .string ⟨#[]⟩]) 32 := inferInstanceAs (TyI Tryz.prog 111 2 (.agg #[.string ⟨#[]⟩, .string ⟨#[]⟩]) 32)
instance : TyU Tryz.prog 54 (.slice tKv.e) := inferInstanceAs (TyU Tryz.prog 54 (.slice 111))
abbrev ndV : Option Nat → Value
 | none => .pointer none
 | some p => .pointer (some ⟨p, 0, none⟩)
def tNd : Ty (Option Nat) := ⟨129, 1, fun p => [ndV p], fun _ => rfl, by decide, fun a v hv => by simp at hv; subst hv; cases a <;> rfl⟩
instance : TyI Tryz.prog tNd.e 1 (.pointer none) 8 := inferInstanceAs (TyI Tryz.prog 129 1 (.pointer none) 8)
instance : TyU Tryz.prog 130 (.slice tNd.e) := inferInstanceAs (TyU Tryz.prog 130 (.slice 129))
attribute [local irreducible] J JL QOp JOp seqQ blockQ loopQ retQ slc cel hex star pur stars Does RV Ent pAt scopeQ
theorem kvins_ok (E : World) (S T : SV) (l : List Kv) (x : Kv) (at' : Nat) (hat : at' ≤ l.length) (hl : l.length ≤ 100000) :
 Does Tryz.prog E 116 [S.v, .int .i64 (at' : Int), T.v] [slc tKv true S l, slcN tKv T [x]] fun v L => ∃ S' : SV, v = S'.v ∧ L = [slc tKv true S' (l.take at' ++ x :: l.drop at')] := by
 have hov : OvFn Tryz.prog 129 54 := ⟨_, 4, Tryz.func129, by kernel_rfl, by kernel_rfl, by kernel_rfl, by kernel_rfl⟩
 refine Does.of Tryz.func116 rfl Tryz.ntmps116 rfl rfl fun F => ?_
 refine J.norm ?_
 refine J.have (p := S.n = l.length ∧ S.n ≤ S.c ∧ (0 < S.c → ∃ g o, S.a = some ⟨g, o, none⟩) ∧ ∃ b, T = ⟨some ⟨b, 0, none⟩, 1, 1⟩) (fun w hs => ⟨(hs.rd 0 rfl).1, (hs.rd 0 rfl).2.1, hs.slcA 0 rfl, hs.slcT 1 rfl⟩) fun ⟨hSn, hSc, hSa, b, hT⟩ => ?_
 subst hT
 refine Sr ?_
 refine Lq (Q_assign rfl) ?_
 refine Ln ?_
 refine Sr ?_
 refine Lq (Q_move rfl) ?_
 refine Lq (Q_move rfl) ?_
 refine Lq (Q_slLc (τ := tKv) at' l.length rfl rfl rfl hSn hat rfl) ?_
 refine Ln ?_
 refine Sr ?_
 refine Lq (Q_move rfl) ?_
 refine Lq ((Q_lenV (S := ⟨some ⟨b, 0, none⟩, 1, 1⟩) rfl).as (v' := .int .i64 1) rfl) ?_
 refine Lq (Q_assign rfl) ?_
 refine Ln ?_
 refine J_seq ?_
 refine Sr ?_
 refine Lq (Q_move rfl) ?_
 refine Lq (Q_eql rfl rfl) ?_
 refine Ln ?_
 refine J_condF rfl ?_
 refine J_skip ?_
 refine seqQ_normal ?_
 refine Sr ?_
 refine Lq (Q_move rfl) ?_
 refine Lq (Q_lenAt 0 rfl rfl) ?_
 refine Lq (Q_assign rfl) ?_
 refine Ln ?_
 refine J_seq ?_
 refine Sr ?_
 refine Lq (Q_move rfl) ?_
 refine Lq (Q_move rfl) ?_
 refine Lq (Q_eql rfl rfl) ?_
 refine Ln ?_
 refine J_condD rfl (fun h => ?_) (fun h => ?_)
 ·obtain rfl : at' = l.length := by omega
  refine Sr ?_
  refine Lq (Q_move rfl) ?_
  refine Lq (Q_move rfl) ?_
  refine L_o rfl rfl rfl (O_app (τ := tKv) 0 rfl (fun w h => h.rdN 1 rfl) rfl rfl rfl rfl (by simp only [List.length_singleton]; omega) (by decide) (fun S2 => ?_))
  refine JL.norm ?_
  refine Lq (Q_assign rfl) ?_
  refine Ln ?_
  refine J_ret ?_
  refine seqQ_ret ?_
  exact retQ_ret _ [slc tKv true S2 (l ++ [x])] (.cons (RV_tmp rfl) .nil) ⟨S2, rfl, by rw [List.take_length, List.drop_length]⟩ (Ent.re [0,2] rfl)
 have hlt : at' < l.length := by omega
 have hdl : (l.drop at').length = l.length - at' := by simp
 have htl : (l.take at').length = at' := by simp; omega
 refine J_skip ?_
 refine seqQ_normal ?_
 refine J_seq ?_
 refine Sr ?_
 refine Lq (Q_move rfl) ?_
 refine Lq (Q_move rfl) ?_
 refine Lq (Q_add rfl rfl (by first | exact IntWalk.i64_in _ (by omega) | exact IntWalk.u8_in _ (by omega) | exact IntWalk.u32_in _ (by omega) | exact IntWalk.u64_in _ (by omega) | rfl)) ?_
 refine Lq (Q_move rfl) ?_
 refine Lq (Q_capV (S := S) rfl) ?_
 refine Lq (Q_gtr rfl rfl) ?_
 refine Ln ?_
 refine J_condD rfl (fun h => ?_) (fun h => ?_)
 ·have hbig : S.c < l.length + 1 := by omega
  refine Sr ?_
  refine Lq (Q_move rfl) ?_
  refine Lq (Q_move rfl) ?_
  refine Lq (Q_slHc (τ := tKv) at' rfl rfl rfl (by omega)) ?_
  refine Lq (Q_move rfl) ?_
  refine Lq (Q_move rfl) ?_
  refine Lq (Q_add rfl rfl (by first | exact IntWalk.i64_in _ (by omega) | exact IntWalk.u8_in _ (by omega) | exact IntWalk.u32_in _ (by omega) | exact IntWalk.u64_in _ (by omega) | rfl)) ?_
  refine Lq (Q_move rfl) ?_
  refine Lq (Q_sub rfl rfl (by first | exact IntWalk.i64_in _ (by omega) | exact IntWalk.u8_in _ (by omega) | exact IntWalk.u32_in _ (by omega) | exact IntWalk.u64_in _ (by omega) | rfl)) ?_
  refine L_o rfl rfl rfl (O_appZ (τ := tKv) 0 at' (l.length + 1 - at') (⟨[], []⟩ : Kv) rfl rfl rfl (by omega) rfl rfl hat (by omega) (by omega) (by decide) (fun S2 => ?_))
  refine JL.norm ?_
  refine Lq (Q_assign rfl) ?_
  refine Ln ?_
  refine J_seq ?_
  refine J.have (p := S2.n = l.length + 1) (fun w hs => by have := (hs.rd 0 rfl).1; rw [this]; simp; omega) fun hS2 => ?_
  obtain ⟨a2, n2, c2⟩ := S2
  simp only at hS2
  subst hS2
  refine J.have (p := l.length + 1 ≤ c2) (fun w hs => (hs.rd 0 rfl).2.1) fun hc2 => ?_
  refine J_region ?_
  refine Lq (Q_move rfl) ?_
  refine Lq (Q_move rfl) ?_
  refine Lq (Q_slLc (τ := tKv) at' (l.length + 1) rfl rfl rfl rfl (by omega) rfl) ?_
  refine Lq (Q_move rfl) ?_
  refine L_o rfl rfl rfl (O_copy (τ := tKv) (T := ⟨some ⟨b, 0, none⟩, 1, 1⟩) (m := [x]) 0 at' (l.length + 1) rfl (fun w h => h.rdN 2 rfl) rfl rfl rfl (by simp; omega) (by simp; omega) (by simp; omega) ?_)
  refine JL.norm ?_
  refine Ln ?_
  refine J_seq ?_
  have e1 : (l.take at' ++ List.replicate (l.length + 1 - at') (⟨[], []⟩ : Kv)).take at' ++ [x] ++ (l.take at' ++ List.replicate (l.length + 1 - at') (⟨[], []⟩ : Kv)).drop (at' + [x].length) = l.take at' ++ [x] ++ List.replicate (l.length - at') (⟨[], []⟩ : Kv) := by
   rw [List.take_append_of_le_length (by omega), List.take_take, Nat.min_self, List.drop_append, List.drop_eq_nil_of_le (by rw [htl]; simp), htl, List.drop_replicate]
   simp
   omega
  have e2 : max (l.length + 1) (at' + [x].length) = l.length + 1 := by simp; omega
  rw [e1, e2]
  refine DH [] [0,1,2,3,4,5,6,7] (.quiet 0 (.quiet 1 (.quiet 2 (.quiet 3 (.quiet 4 (.quiet 5 (.quiet 6 (.quiet 7 (.loud 8 .done))))))))) Tryz.mixed ?_
  refine Sq (Ent.re [] rfl) rfl (Q_move rfl) ?_
  refine Sq (Ent.re [] rfl) rfl (Q_move rfl) ?_
  refine Sq (Ent.re [] rfl) rfl (Q_move rfl) ?_
  refine Sq (Ent.re [] rfl) rfl (Q_add rfl rfl (by first | exact IntWalk.i64_in _ (by omega) | exact IntWalk.u8_in _ (by omega) | exact IntWalk.u32_in _ (by omega) | exact IntWalk.u64_in _ (by omega) | rfl)) ?_
  refine Sq (Ent.re [] rfl) rfl (Q_slLc (τ := tKv) (at' + 1) (l.length + 1) rfl rfl (by omega) rfl (by omega) rfl) ?_
  refine Sq (Ent.re [] rfl) rfl (Q_move rfl) ?_
  refine Sq (Ent.re [] rfl) rfl (Q_move rfl) ?_
  refine Sq (Ent.re [] rfl) rfl (Q_slLc (τ := tKv) at' l.length rfl rfl rfl hSn hat rfl) ?_
  refine S_o rfl rfl rfl rfl (O_copy (τ := tKv) (T := S.sub tKv.sz at' l.length) (m := l.drop at') 0 (at' + 1) (l.length + 1) rfl (fun w h => (h.rd 1 rfl).dropN at' hat) rfl rfl rfl (by rw [hdl]; show min (l.length - at') _ = _; omega) (by simp; omega) (by rw [hdl]; simp only; omega) ⟨[], fun _ => ⟨Ent.re [] rfl, Ent.refl _⟩, ?_⟩)
  refine JS.norm ?_
  refine S_nil ?_
  refine seqQ_normal ?_
  refine J_seq ?_
  have e3 : (l.take at' ++ [x] ++ List.replicate (l.length - at') (⟨[], []⟩ : Kv)).take (at' + 1) ++ l.drop at' ++ (l.take at' ++ [x] ++ List.replicate (l.length - at') (⟨[], []⟩ : Kv)).drop (at' + 1 + (l.drop at').length) = l.take at' ++ x :: l.drop at' := by
   have a1 : (l.take at' ++ [x] ++ List.replicate (l.length - at') (⟨[], []⟩ : Kv)).take (at' + 1) = l.take at' ++ [x] := List.take_left' (by simp; omega)
   have a2 : (l.take at' ++ [x] ++ List.replicate (l.length - at') (⟨[], []⟩ : Kv)).drop (at' + 1 + (l.drop at').length) = [] := List.drop_eq_nil_of_le (by simp; omega)
   rw [a1, a2]
   simp
  have e4 : max (l.length + 1) (at' + 1 + (l.drop at').length) = l.length + 1 := by rw [hdl]; omega
  rw [e3, e4]
  refine J_region ?_
  refine Lq (Q_move rfl) ?_
  refine Lq (Q_assign rfl) ?_
  refine Ln ?_
  refine J_ret ?_
  refine seqQ_ret ?_
  exact retQ_ret _ [slc tKv true ⟨a2, l.length + 1, c2⟩ (l.take at' ++ x :: l.drop at')] (.cons (RV_tmp rfl) .nil) ⟨_, rfl, rfl⟩ (Ent.re [0,3] rfl)
 ·obtain ⟨g, o, hSA⟩ := hSa (by omega)
  clear hSa
  obtain ⟨aS, nS, cS⟩ := S
  simp only at hSn hSc hSA h
  subst hSn hSA
  have hroom : l.length + 1 ≤ cS := by omega
  refine J_skip ?_
  refine seqQ_normal ?_
  refine Sr ?_
  refine Lq (Q_move rfl) ?_
  refine Lq (Q_move rfl) ?_
  refine Lq (Q_move rfl) ?_
  refine Lq (Q_add rfl rfl (by first | exact IntWalk.i64_in _ (by omega) | exact IntWalk.u8_in _ (by omega) | exact IntWalk.u32_in _ (by omega) | exact IntWalk.u64_in _ (by omega) | rfl)) ?_
  refine Lq ((Q_slHc (τ := tKv) (l.length + 1) rfl rfl rfl hroom).as (v' := SV.v ⟨some ⟨g, o, none⟩, l.length + 1, cS⟩) (by simp [SV.sub, addr_add])) ?_
  refine Lq (Q_assign rfl) ?_
  refine Ln ?_
  refine J_seq ?_
  refine Sr ?_
  refine Lq (Q_move rfl) ?_
  refine Lq (Q_move rfl) ?_
  refine Lq (Q_move rfl) ?_
  refine Lq (Q_move rfl) ?_
  refine Lq (Q_add rfl rfl (by first | exact IntWalk.i64_in _ (by omega) | exact IntWalk.u8_in _ (by omega) | exact IntWalk.u32_in _ (by omega) | exact IntWalk.u64_in _ (by omega) | rfl)) ?_
  refine Lq (Q_slLc (τ := tKv) (S := ⟨some ⟨g, o, none⟩, l.length + 1, cS⟩) (at' + 1) (l.length + 1) rfl rfl (by omega) rfl (by omega) rfl) ?_
  refine L_o rfl rfl rfl (O_overlaps (τ := tKv) (S := ⟨some ⟨g, o, none⟩, l.length, cS⟩) (T := ⟨some ⟨b, 0, none⟩, 1, 1⟩) 1 0 (at' + 1) (l.length + 1) hov (by decide) rfl rfl rfl rfl rfl (by simp) (by simp only; omega) ?_)
  refine JL.norm ?_
  refine Lq (Q_not rfl) ?_
  refine Ln ?_
  refine J_condT rfl ?_
  refine J_seq ?_
  refine DH [] [0,1,2,3,4,5,6,7] (.quiet 0 (.quiet 1 (.quiet 2 (.quiet 3 (.quiet 4 (.quiet 5 (.quiet 6 (.quiet 7 (.loud 8 .done))))))))) Tryz.mixed ?_
  refine Sq (Ent.re [] rfl) rfl (Q_move rfl) ?_
  refine Sq (Ent.re [] rfl) rfl (Q_move rfl) ?_
  refine Sq (Ent.re [] rfl) rfl (Q_move rfl) ?_
  refine Sq (Ent.re [] rfl) rfl (Q_add rfl rfl (by first | exact IntWalk.i64_in _ (by omega) | exact IntWalk.u8_in _ (by omega) | exact IntWalk.u32_in _ (by omega) | exact IntWalk.u64_in _ (by omega) | rfl)) ?_
  refine Sq (Ent.re [] rfl) rfl (Q_slLc (τ := tKv) (S := ⟨some ⟨g, o, none⟩, l.length + 1, cS⟩) (at' + 1) (l.length + 1) rfl rfl (by omega) rfl (by omega) rfl) ?_
  refine Sq (Ent.re [] rfl) rfl (Q_move rfl) ?_
  refine Sq (Ent.re [] rfl) rfl (Q_move rfl) ?_
  refine Sq (Ent.re [] rfl) rfl (Q_slLc (τ := tKv) (S := ⟨some ⟨g, o, none⟩, l.length + 1, cS⟩) at' (l.length + 1) rfl rfl rfl rfl (by omega) rfl) ?_
  refine S_o rfl rfl rfl rfl (O_copy (τ := tKv) (D := ⟨some ⟨g, o, none⟩, l.length, cS⟩) (T := SV.sub ⟨some ⟨g, o, none⟩, l.length + 1, cS⟩ tKv.sz at' (l.length + 1)) (m := l.drop at') 0 (at' + 1) (l.length + 1) rfl (fun w h => (h.rd 0 rfl).dropN at' hat) rfl rfl rfl (by rw [hdl]; show min (l.length + 1 - at') _ = _; omega) (by omega) (by rw [hdl]; simp only; omega) ⟨[], fun _ => ⟨Ent.re [] rfl, Ent.refl _⟩, ?_⟩)
  refine JS.norm ?_
  refine S_nil ?_
  refine seqQ_normal ?_
  refine J_seq ?_
  have e3 : l.take (at' + 1) ++ l.drop at' ++ l.drop (at' + 1 + (l.drop at').length) = l.take (at' + 1) ++ l.drop at' := by
   have a3 : l.drop (at' + 1 + (l.drop at').length) = [] := List.drop_eq_nil_of_le (by rw [hdl]; omega)
   rw [a3, List.append_nil]
  have e4 : max l.length (at' + 1 + (l.drop at').length) = l.length + 1 := by rw [hdl]; omega
  simp only [e3, e4]
  refine J_region ?_
  refine Lq (Q_move rfl) ?_
  refine Lq (Q_move rfl) ?_
  refine Lq (Q_slLc (τ := tKv) (S := ⟨some ⟨g, o, none⟩, l.length + 1, cS⟩) at' (l.length + 1) rfl rfl rfl rfl (by omega) rfl) ?_
  refine Lq (Q_move rfl) ?_
  refine L_o rfl rfl rfl (O_copy (τ := tKv) (T := ⟨some ⟨b, 0, none⟩, 1, 1⟩) (m := [x]) 0 at' (l.length + 1) rfl (fun w h => h.rdN 1 rfl) rfl rfl rfl (by simp; omega) (by simp; omega) (by simp; omega) ?_)
  refine JL.norm ?_
  refine Ln ?_
  refine J_seq ?_
  have e5 : (l.take (at' + 1) ++ l.drop at').take at' ++ [x] ++ (l.take (at' + 1) ++ l.drop at').drop (at' + [x].length) = l.take at' ++ x :: l.drop at' := by
   rw [List.take_append_of_le_length (by simp; omega), List.take_take, Nat.min_eq_left (by omega), List.drop_left' (by simp; omega)]
   simp
  have e6 : max (l.length + 1) (at' + [x].length) = l.length + 1 := by simp; omega
  simp only [e5, e6]
  refine J_region ?_
  refine Lq (Q_move rfl) ?_
  refine Lq (Q_assign rfl) ?_
  refine Ln ?_
  refine J_ret ?_
  refine seqQ_ret ?_
  exact retQ_ret _ [slc tKv true ⟨some ⟨g, o, none⟩, l.length + 1, cS⟩ (l.take at' ++ x :: l.drop at')] (.cons (RV_tmp rfl) .nil) ⟨_, rfl, rfl⟩ (Ent.re [0,2] rfl)
theorem kvdel_ok (E : World) (S : SV) (l : List Kv) (i j : Nat) (hij : i ≤ j) (hj : j ≤ l.length) (hl : l.length ≤ 100000) :
 Does Tryz.prog E 164 [S.v, .int .i64 (i : Int), .int .i64 (j : Int)] [slc tKv true S l] fun v L => ∃ S' : SV, v = S'.v ∧ L = [slc tKv true S' (l.take i ++ l.drop j)] := by
 refine Does.of Tryz.func164 rfl Tryz.ntmps164 rfl rfl fun F => ?_
 refine J.norm ?_
 refine J.have (p := S.n = l.length ∧ S.n ≤ S.c) (fun w hs => ⟨(hs.rd 0 rfl).1, (hs.rd 0 rfl).2.1⟩) fun hS => ?_
 refine Sr ?_
 refine Lq (Q_assign rfl) ?_
 refine Ln ?_
 refine Sr ?_
 refine Lq (Q_move rfl) ?_
 refine Lq (Q_move rfl) ?_
 refine Lq (Q_move rfl) ?_
 refine Lq (Q_move rfl) ?_
 refine Lq (Q_lenAt 0 rfl rfl) ?_
 refine Lq (Q_sl3 (τ := tKv) i j l.length rfl rfl rfl rfl rfl rfl rfl hij hj (by omega) rfl) ?_
 refine Ln ?_
 refine J_seq ?_
 refine Sr ?_
 refine Lq (Q_move rfl) ?_
 refine Lq (Q_move rfl) ?_
 refine Lq (Q_eql rfl rfl) ?_
 refine Ln ?_
 refine J_condD rfl (fun h => ?_) (fun h => ?_)
 ·obtain rfl : i = j := by omega
  refine Sr ?_
  refine Lq (Q_move rfl) ?_
  refine Lq (Q_assign rfl) ?_
  refine Ln ?_
  refine J_ret ?_
  refine seqQ_ret ?_
  exact retQ_ret _ [slc tKv true S l] (.cons (RV_tmp rfl) .nil) ⟨S, rfl, by rw [List.take_append_drop]⟩ (Ent.refl _)
 ·have hm : (l.take l.length).drop j = l.drop j := by rw [List.take_length]
  have hlen : (l.take i ++ l.drop j).length = i + (l.length - j) := by simp; omega
  refine J_skip ?_
  refine seqQ_normal ?_
  refine Sr ?_
  refine Lq (Q_move rfl) ?_
  refine Lq (Q_lenAt 0 rfl rfl) ?_
  refine Lq (Q_assign rfl) ?_
  refine Ln ?_
  refine J_seq ?_
  refine DH [] [0,1,2,3,4,5,7] (.quiet 0 (.quiet 1 (.quiet 2 (.quiet 3 (.quiet 4 (.quiet 5 (.loud 6 (.quiet 7 .done)))))))) Tryz.mixed ?_
  refine Sq (Ent.re [] rfl) rfl (Q_move rfl) ?_
  refine Sq (Ent.re [] rfl) rfl (Q_move rfl) ?_
  refine Sq (Ent.re [] rfl) rfl (Q_slHc (τ := tKv) i rfl rfl rfl (by omega)) ?_
  refine Sq (Ent.re [] rfl) rfl (Q_move rfl) ?_
  refine Sq (Ent.re [] rfl) rfl (Q_move rfl) ?_
  refine Sq (Ent.re [] rfl) rfl (Q_slLc (τ := tKv) j l.length rfl rfl rfl hS.1 hj rfl) ?_
  refine S_o rfl rfl rfl rfl (O_appIn (τ := tKv) 0 i rfl (fun w h => (h.rd 0 rfl).sub j l.length hj (Nat.le_refl _)) rfl rfl rfl (by omega) (by simp; omega) ⟨[], fun _ => ⟨Ent.re [] rfl, Ent.refl _⟩, ?_⟩)
  refine JS.norm ?_
  refine Sq (Ent.re [] rfl) rfl (Q_assign rfl) ?_
  refine S_nil ?_
  refine seqQ_normal ?_
  refine J_seq ?_
  rw [hm]
  have hS' : (⟨(S.sub tKv.sz 0 i).a, i + (l.drop j).length, S.c⟩ : SV).c = S.c := rfl
  generalize (⟨(S.sub tKv.sz 0 i).a, i + (l.drop j).length, S.c⟩ : SV) = T at hS' ⊢
  refine J_region ?_
  refine Lq (Q_move rfl) ?_
  refine Lq (Q_move rfl) ?_
  refine Lq (Q_lenAt 0 rfl rfl) ?_
  refine Lq (Q_move rfl) ?_
  refine Lq (Q_slLHc (τ := tKv) (i + (l.length - j)) l.length rfl rfl rfl (by rw [hlen]) rfl (by omega) (by omega) rfl) ?_
  refine L_s rfl rfl (O_clear (τ := tKv) 0 (i + (l.length - j)) l.length rfl rfl rfl rfl (by simp [Value.cells, Value.oneCell']) (by omega) (by omega) (by omega) ?_)
  refine JL.norm ?_
  refine Ln ?_
  refine Sr ?_
  refine Lq (Q_move rfl) ?_
  refine Lq (Q_assign rfl) ?_
  refine Ln ?_
  refine J_ret ?_
  exact retQ_ret _ [slc tKv true T (l.take i ++ l.drop j)] (.cons (RV_tmp rfl) .nil) ⟨T, rfl, rfl⟩ (Ent.refl _)
theorem ndins_ok (E : World) (S T : SV) (l : List (Option Nat)) (x : Option Nat) (at' : Nat) (hat : at' ≤ l.length) (hl : l.length ≤ 100000) :
 Does Tryz.prog E 117 [S.v, .int .i64 (at' : Int), T.v] [slc tNd true S l, slcN tNd T [x]] fun v L => ∃ S' : SV, v = S'.v ∧ L = [slc tNd true S' (l.take at' ++ x :: l.drop at')] := by
 have hov : OvFn Tryz.prog 131 130 := ⟨_, 4, Tryz.func131, by kernel_rfl, by kernel_rfl, by kernel_rfl, by kernel_rfl⟩
 refine Does.of Tryz.func117 rfl Tryz.ntmps117 rfl rfl fun F => ?_
 refine J.norm ?_
 refine J.have (p := S.n = l.length ∧ S.n ≤ S.c ∧ (0 < S.c → ∃ g o, S.a = some ⟨g, o, none⟩) ∧ ∃ b, T = ⟨some ⟨b, 0, none⟩, 1, 1⟩) (fun w hs => ⟨(hs.rd 0 rfl).1, (hs.rd 0 rfl).2.1, hs.slcA 0 rfl, hs.slcT 1 rfl⟩) fun ⟨hSn, hSc, hSa, b, hT⟩ => ?_
 subst hT
 refine Sr ?_
 refine Lq (Q_assign rfl) ?_
 refine Ln ?_
 refine Sr ?_
 refine Lq (Q_move rfl) ?_
 refine Lq (Q_move rfl) ?_
 refine Lq (Q_slLc (τ := tNd) at' l.length rfl rfl rfl hSn hat rfl) ?_
 refine Ln ?_
 refine Sr ?_
 refine Lq (Q_move rfl) ?_
 refine Lq ((Q_lenV (S := ⟨some ⟨b, 0, none⟩, 1, 1⟩) rfl).as (v' := .int .i64 1) rfl) ?_
 refine Lq (Q_assign rfl) ?_
 refine Ln ?_
 refine J_seq ?_
 refine Sr ?_
 refine Lq (Q_move rfl) ?_
 refine Lq (Q_eql rfl rfl) ?_
 refine Ln ?_
 refine J_condF rfl ?_
 refine J_skip ?_
 refine seqQ_normal ?_
 refine Sr ?_
 refine Lq (Q_move rfl) ?_
 refine Lq (Q_lenAt 0 rfl rfl) ?_
 refine Lq (Q_assign rfl) ?_
 refine Ln ?_
 refine J_seq ?_
 refine Sr ?_
 refine Lq (Q_move rfl) ?_
 refine Lq (Q_move rfl) ?_
 refine Lq (Q_eql rfl rfl) ?_
 refine Ln ?_
 refine J_condD rfl (fun h => ?_) (fun h => ?_)
 ·obtain rfl : at' = l.length := by omega
  refine Sr ?_
  refine Lq (Q_move rfl) ?_
  refine Lq (Q_move rfl) ?_
  refine L_o rfl rfl rfl (O_app (τ := tNd) 0 rfl (fun w h => h.rdN 1 rfl) rfl rfl rfl rfl (by simp only [List.length_singleton]; omega) (by decide) (fun S2 => ?_))
  refine JL.norm ?_
  refine Lq (Q_assign rfl) ?_
  refine Ln ?_
  refine J_ret ?_
  refine seqQ_ret ?_
  exact retQ_ret _ [slc tNd true S2 (l ++ [x])] (.cons (RV_tmp rfl) .nil) ⟨S2, rfl, by rw [List.take_length, List.drop_length]⟩ (Ent.re [0,2] rfl)
 have hlt : at' < l.length := by omega
 have hdl : (l.drop at').length = l.length - at' := by simp
 have htl : (l.take at').length = at' := by simp; omega
 refine J_skip ?_
 refine seqQ_normal ?_
 refine J_seq ?_
 refine Sr ?_
 refine Lq (Q_move rfl) ?_
 refine Lq (Q_move rfl) ?_
 refine Lq (Q_add rfl rfl (by first | exact IntWalk.i64_in _ (by omega) | exact IntWalk.u8_in _ (by omega) | exact IntWalk.u32_in _ (by omega) | exact IntWalk.u64_in _ (by omega) | rfl)) ?_
 refine Lq (Q_move rfl) ?_
 refine Lq (Q_capV (S := S) rfl) ?_
 refine Lq (Q_gtr rfl rfl) ?_
 refine Ln ?_
 refine J_condD rfl (fun h => ?_) (fun h => ?_)
 ·have hbig : S.c < l.length + 1 := by omega
  refine Sr ?_
  refine Lq (Q_move rfl) ?_
  refine Lq (Q_move rfl) ?_
  refine Lq (Q_slHc (τ := tNd) at' rfl rfl rfl (by omega)) ?_
  refine Lq (Q_move rfl) ?_
  refine Lq (Q_move rfl) ?_
  refine Lq (Q_add rfl rfl (by first | exact IntWalk.i64_in _ (by omega) | exact IntWalk.u8_in _ (by omega) | exact IntWalk.u32_in _ (by omega) | exact IntWalk.u64_in _ (by omega) | rfl)) ?_
  refine Lq (Q_move rfl) ?_
  refine Lq (Q_sub rfl rfl (by first | exact IntWalk.i64_in _ (by omega) | exact IntWalk.u8_in _ (by omega) | exact IntWalk.u32_in _ (by omega) | exact IntWalk.u64_in _ (by omega) | rfl)) ?_
  refine L_o rfl rfl rfl (O_appZ (τ := tNd) 0 at' (l.length + 1 - at') (none : Option Nat) rfl rfl rfl (by omega) rfl rfl hat (by omega) (by omega) (by decide) (fun S2 => ?_))
  refine JL.norm ?_
  refine Lq (Q_assign rfl) ?_
  refine Ln ?_
  refine J_seq ?_
  refine J.have (p := S2.n = l.length + 1) (fun w hs => by have := (hs.rd 0 rfl).1; rw [this]; simp; omega) fun hS2 => ?_
  obtain ⟨a2, n2, c2⟩ := S2
  simp only at hS2
  subst hS2
  refine J.have (p := l.length + 1 ≤ c2) (fun w hs => (hs.rd 0 rfl).2.1) fun hc2 => ?_
  refine J_region ?_
  refine Lq (Q_move rfl) ?_
  refine Lq (Q_move rfl) ?_
  refine Lq (Q_slLc (τ := tNd) at' (l.length + 1) rfl rfl rfl rfl (by omega) rfl) ?_
  refine Lq (Q_move rfl) ?_
  refine L_o rfl rfl rfl (O_copy (τ := tNd) (T := ⟨some ⟨b, 0, none⟩, 1, 1⟩) (m := [x]) 0 at' (l.length + 1) rfl (fun w h => h.rdN 2 rfl) rfl rfl rfl (by simp; omega) (by simp; omega) (by simp; omega) ?_)
  refine JL.norm ?_
  refine Ln ?_
  refine J_seq ?_
  have e1 : (l.take at' ++ List.replicate (l.length + 1 - at') (none : Option Nat)).take at' ++ [x] ++ (l.take at' ++ List.replicate (l.length + 1 - at') (none : Option Nat)).drop (at' + [x].length) = l.take at' ++ [x] ++ List.replicate (l.length - at') (none : Option Nat) := by
   rw [List.take_append_of_le_length (by omega), List.take_take, Nat.min_self, List.drop_append, List.drop_eq_nil_of_le (by rw [htl]; simp), htl, List.drop_replicate]
   simp
   omega
  have e2 : max (l.length + 1) (at' + [x].length) = l.length + 1 := by simp; omega
  rw [e1, e2]
  refine DH [] [0,1,2,3,4,5,6,7] (.quiet 0 (.quiet 1 (.quiet 2 (.quiet 3 (.quiet 4 (.quiet 5 (.quiet 6 (.quiet 7 (.loud 8 .done))))))))) Tryz.mixed ?_
  refine Sq (Ent.re [] rfl) rfl (Q_move rfl) ?_
  refine Sq (Ent.re [] rfl) rfl (Q_move rfl) ?_
  refine Sq (Ent.re [] rfl) rfl (Q_move rfl) ?_
  refine Sq (Ent.re [] rfl) rfl (Q_add rfl rfl (by first | exact IntWalk.i64_in _ (by omega) | exact IntWalk.u8_in _ (by omega) | exact IntWalk.u32_in _ (by omega) | exact IntWalk.u64_in _ (by omega) | rfl)) ?_
  refine Sq (Ent.re [] rfl) rfl (Q_slLc (τ := tNd) (at' + 1) (l.length + 1) rfl rfl (by omega) rfl (by omega) rfl) ?_
  refine Sq (Ent.re [] rfl) rfl (Q_move rfl) ?_
  refine Sq (Ent.re [] rfl) rfl (Q_move rfl) ?_
  refine Sq (Ent.re [] rfl) rfl (Q_slLc (τ := tNd) at' l.length rfl rfl rfl hSn hat rfl) ?_
  refine S_o rfl rfl rfl rfl (O_copy (τ := tNd) (T := S.sub tNd.sz at' l.length) (m := l.drop at') 0 (at' + 1) (l.length + 1) rfl (fun w h => (h.rd 1 rfl).dropN at' hat) rfl rfl rfl (by rw [hdl]; show min (l.length - at') _ = _; omega) (by simp; omega) (by rw [hdl]; simp only; omega) ⟨[], fun _ => ⟨Ent.re [] rfl, Ent.refl _⟩, ?_⟩)
  refine JS.norm ?_
  refine S_nil ?_
  refine seqQ_normal ?_
  refine J_seq ?_
  have e3 : (l.take at' ++ [x] ++ List.replicate (l.length - at') (none : Option Nat)).take (at' + 1) ++ l.drop at' ++ (l.take at' ++ [x] ++ List.replicate (l.length - at') (none : Option Nat)).drop (at' + 1 + (l.drop at').length) = l.take at' ++ x :: l.drop at' := by
   have a1 : (l.take at' ++ [x] ++ List.replicate (l.length - at') (none : Option Nat)).take (at' + 1) = l.take at' ++ [x] := List.take_left' (by simp; omega)
   have a2 : (l.take at' ++ [x] ++ List.replicate (l.length - at') (none : Option Nat)).drop (at' + 1 + (l.drop at').length) = [] := List.drop_eq_nil_of_le (by simp; omega)
   rw [a1, a2]
   simp
  have e4 : max (l.length + 1) (at' + 1 + (l.drop at').length) = l.length + 1 := by rw [hdl]; omega
  rw [e3, e4]
  refine J_region ?_
  refine Lq (Q_move rfl) ?_
  refine Lq (Q_assign rfl) ?_
  refine Ln ?_
  refine J_ret ?_
  refine seqQ_ret ?_
  exact retQ_ret _ [slc tNd true ⟨a2, l.length + 1, c2⟩ (l.take at' ++ x :: l.drop at')] (.cons (RV_tmp rfl) .nil) ⟨_, rfl, rfl⟩ (Ent.re [0,3] rfl)
 ·obtain ⟨g, o, hSA⟩ := hSa (by omega)
  clear hSa
  obtain ⟨aS, nS, cS⟩ := S
  simp only at hSn hSc hSA h
  subst hSn hSA
  have hroom : l.length + 1 ≤ cS := by omega
  refine J_skip ?_
  refine seqQ_normal ?_
  refine Sr ?_
  refine Lq (Q_move rfl) ?_
  refine Lq (Q_move rfl) ?_
  refine Lq (Q_move rfl) ?_
  refine Lq (Q_add rfl rfl (by first | exact IntWalk.i64_in _ (by omega) | exact IntWalk.u8_in _ (by omega) | exact IntWalk.u32_in _ (by omega) | exact IntWalk.u64_in _ (by omega) | rfl)) ?_
  refine Lq ((Q_slHc (τ := tNd) (l.length + 1) rfl rfl rfl hroom).as (v' := SV.v ⟨some ⟨g, o, none⟩, l.length + 1, cS⟩) (by simp [SV.sub, addr_add])) ?_
  refine Lq (Q_assign rfl) ?_
  refine Ln ?_
  refine J_seq ?_
  refine Sr ?_
  refine Lq (Q_move rfl) ?_
  refine Lq (Q_move rfl) ?_
  refine Lq (Q_move rfl) ?_
  refine Lq (Q_move rfl) ?_
  refine Lq (Q_add rfl rfl (by first | exact IntWalk.i64_in _ (by omega) | exact IntWalk.u8_in _ (by omega) | exact IntWalk.u32_in _ (by omega) | exact IntWalk.u64_in _ (by omega) | rfl)) ?_
  refine Lq (Q_slLc (τ := tNd) (S := ⟨some ⟨g, o, none⟩, l.length + 1, cS⟩) (at' + 1) (l.length + 1) rfl rfl (by omega) rfl (by omega) rfl) ?_
  refine L_o rfl rfl rfl (O_overlaps (τ := tNd) (S := ⟨some ⟨g, o, none⟩, l.length, cS⟩) (T := ⟨some ⟨b, 0, none⟩, 1, 1⟩) 1 0 (at' + 1) (l.length + 1) hov (by decide) rfl rfl rfl rfl rfl (by simp) (by simp only; omega) ?_)
  refine JL.norm ?_
  refine Lq (Q_not rfl) ?_
  refine Ln ?_
  refine J_condT rfl ?_
  refine J_seq ?_
  refine DH [] [0,1,2,3,4,5,6,7] (.quiet 0 (.quiet 1 (.quiet 2 (.quiet 3 (.quiet 4 (.quiet 5 (.quiet 6 (.quiet 7 (.loud 8 .done))))))))) Tryz.mixed ?_
  refine Sq (Ent.re [] rfl) rfl (Q_move rfl) ?_
  refine Sq (Ent.re [] rfl) rfl (Q_move rfl) ?_
  refine Sq (Ent.re [] rfl) rfl (Q_move rfl) ?_
  refine Sq (Ent.re [] rfl) rfl (Q_add rfl rfl (by first | exact IntWalk.i64_in _ (by omega) | exact IntWalk.u8_in _ (by omega) | exact IntWalk.u32_in _ (by omega) | exact IntWalk.u64_in _ (by omega) | rfl)) ?_
  refine Sq (Ent.re [] rfl) rfl (Q_slLc (τ := tNd) (S := ⟨some ⟨g, o, none⟩, l.length + 1, cS⟩) (at' + 1) (l.length + 1) rfl rfl (by omega) rfl (by omega) rfl) ?_
  refine Sq (Ent.re [] rfl) rfl (Q_move rfl) ?_
  refine Sq (Ent.re [] rfl) rfl (Q_move rfl) ?_
  refine Sq (Ent.re [] rfl) rfl (Q_slLc (τ := tNd) (S := ⟨some ⟨g, o, none⟩, l.length + 1, cS⟩) at' (l.length + 1) rfl rfl rfl rfl (by omega) rfl) ?_
  refine S_o rfl rfl rfl rfl (O_copy (τ := tNd) (D := ⟨some ⟨g, o, none⟩, l.length, cS⟩) (T := SV.sub ⟨some ⟨g, o, none⟩, l.length + 1, cS⟩ tNd.sz at' (l.length + 1)) (m := l.drop at') 0 (at' + 1) (l.length + 1) rfl (fun w h => (h.rd 0 rfl).dropN at' hat) rfl rfl rfl (by rw [hdl]; show min (l.length + 1 - at') _ = _; omega) (by omega) (by rw [hdl]; simp only; omega) ⟨[], fun _ => ⟨Ent.re [] rfl, Ent.refl _⟩, ?_⟩)
  refine JS.norm ?_
  refine S_nil ?_
  refine seqQ_normal ?_
  refine J_seq ?_
  have e3 : l.take (at' + 1) ++ l.drop at' ++ l.drop (at' + 1 + (l.drop at').length) = l.take (at' + 1) ++ l.drop at' := by
   have a3 : l.drop (at' + 1 + (l.drop at').length) = [] := List.drop_eq_nil_of_le (by rw [hdl]; omega)
   rw [a3, List.append_nil]
  have e4 : max l.length (at' + 1 + (l.drop at').length) = l.length + 1 := by rw [hdl]; omega
  simp only [e3, e4]
  refine J_region ?_
  refine Lq (Q_move rfl) ?_
  refine Lq (Q_move rfl) ?_
  refine Lq (Q_slLc (τ := tNd) (S := ⟨some ⟨g, o, none⟩, l.length + 1, cS⟩) at' (l.length + 1) rfl rfl rfl rfl (by omega) rfl) ?_
  refine Lq (Q_move rfl) ?_
  refine L_o rfl rfl rfl (O_copy (τ := tNd) (T := ⟨some ⟨b, 0, none⟩, 1, 1⟩) (m := [x]) 0 at' (l.length + 1) rfl (fun w h => h.rdN 1 rfl) rfl rfl rfl (by simp; omega) (by simp; omega) (by simp; omega) ?_)
  refine JL.norm ?_
  refine Ln ?_
  refine J_seq ?_
  have e5 : (l.take (at' + 1) ++ l.drop at').take at' ++ [x] ++ (l.take (at' + 1) ++ l.drop at').drop (at' + [x].length) = l.take at' ++ x :: l.drop at' := by
   rw [List.take_append_of_le_length (by simp; omega), List.take_take, Nat.min_eq_left (by omega), List.drop_left' (by simp; omega)]
   simp
  have e6 : max (l.length + 1) (at' + [x].length) = l.length + 1 := by simp; omega
  simp only [e5, e6]
  refine J_region ?_
  refine Lq (Q_move rfl) ?_
  refine Lq (Q_assign rfl) ?_
  refine Ln ?_
  refine J_ret ?_
  refine seqQ_ret ?_
  exact retQ_ret _ [slc tNd true ⟨some ⟨g, o, none⟩, l.length + 1, cS⟩ (l.take at' ++ x :: l.drop at')] (.cons (RV_tmp rfl) .nil) ⟨_, rfl, rfl⟩ (Ent.re [0,2] rfl)
theorem nddel_ok (E : World) (S : SV) (l : List (Option Nat)) (i j : Nat) (hij : i ≤ j) (hj : j ≤ l.length) (hl : l.length ≤ 100000) :
 Does Tryz.prog E 170 [S.v, .int .i64 (i : Int), .int .i64 (j : Int)] [slc tNd true S l] fun v L => ∃ S' : SV, v = S'.v ∧ L = [slc tNd true S' (l.take i ++ l.drop j)] := by
 refine Does.of Tryz.func170 rfl Tryz.ntmps170 rfl rfl fun F => ?_
 refine J.norm ?_
 refine J.have (p := S.n = l.length ∧ S.n ≤ S.c) (fun w hs => ⟨(hs.rd 0 rfl).1, (hs.rd 0 rfl).2.1⟩) fun hS => ?_
 refine Sr ?_
 refine Lq (Q_assign rfl) ?_
 refine Ln ?_
 refine Sr ?_
 refine Lq (Q_move rfl) ?_
 refine Lq (Q_move rfl) ?_
 refine Lq (Q_move rfl) ?_
 refine Lq (Q_move rfl) ?_
 refine Lq (Q_lenAt 0 rfl rfl) ?_
 refine Lq (Q_sl3 (τ := tNd) i j l.length rfl rfl rfl rfl rfl rfl rfl hij hj (by omega) rfl) ?_
 refine Ln ?_
 refine J_seq ?_
 refine Sr ?_
 refine Lq (Q_move rfl) ?_
 refine Lq (Q_move rfl) ?_
 refine Lq (Q_eql rfl rfl) ?_
 refine Ln ?_
 refine J_condD rfl (fun h => ?_) (fun h => ?_)
 ·obtain rfl : i = j := by omega
  refine Sr ?_
  refine Lq (Q_move rfl) ?_
  refine Lq (Q_assign rfl) ?_
  refine Ln ?_
  refine J_ret ?_
  refine seqQ_ret ?_
  exact retQ_ret _ [slc tNd true S l] (.cons (RV_tmp rfl) .nil) ⟨S, rfl, by rw [List.take_append_drop]⟩ (Ent.refl _)
 ·have hm : (l.take l.length).drop j = l.drop j := by rw [List.take_length]
  have hlen : (l.take i ++ l.drop j).length = i + (l.length - j) := by simp; omega
  refine J_skip ?_
  refine seqQ_normal ?_
  refine Sr ?_
  refine Lq (Q_move rfl) ?_
  refine Lq (Q_lenAt 0 rfl rfl) ?_
  refine Lq (Q_assign rfl) ?_
  refine Ln ?_
  refine J_seq ?_
  refine DH [] [0,1,2,3,4,5,7] (.quiet 0 (.quiet 1 (.quiet 2 (.quiet 3 (.quiet 4 (.quiet 5 (.loud 6 (.quiet 7 .done)))))))) Tryz.mixed ?_
  refine Sq (Ent.re [] rfl) rfl (Q_move rfl) ?_
  refine Sq (Ent.re [] rfl) rfl (Q_move rfl) ?_
  refine Sq (Ent.re [] rfl) rfl (Q_slHc (τ := tNd) i rfl rfl rfl (by omega)) ?_
  refine Sq (Ent.re [] rfl) rfl (Q_move rfl) ?_
  refine Sq (Ent.re [] rfl) rfl (Q_move rfl) ?_
  refine Sq (Ent.re [] rfl) rfl (Q_slLc (τ := tNd) j l.length rfl rfl rfl hS.1 hj rfl) ?_
  refine S_o rfl rfl rfl rfl (O_appIn (τ := tNd) 0 i rfl (fun w h => (h.rd 0 rfl).sub j l.length hj (Nat.le_refl _)) rfl rfl rfl (by omega) (by simp; omega) ⟨[], fun _ => ⟨Ent.re [] rfl, Ent.refl _⟩, ?_⟩)
  refine JS.norm ?_
  refine Sq (Ent.re [] rfl) rfl (Q_assign rfl) ?_
  refine S_nil ?_
  refine seqQ_normal ?_
  refine J_seq ?_
  rw [hm]
  have hS' : (⟨(S.sub tNd.sz 0 i).a, i + (l.drop j).length, S.c⟩ : SV).c = S.c := rfl
  generalize (⟨(S.sub tNd.sz 0 i).a, i + (l.drop j).length, S.c⟩ : SV) = T at hS' ⊢
  refine J_region ?_
  refine Lq (Q_move rfl) ?_
  refine Lq (Q_move rfl) ?_
  refine Lq (Q_lenAt 0 rfl rfl) ?_
  refine Lq (Q_move rfl) ?_
  refine Lq (Q_slLHc (τ := tNd) (i + (l.length - j)) l.length rfl rfl rfl (by rw [hlen]) rfl (by omega) (by omega) rfl) ?_
  refine L_s rfl rfl (O_clear (τ := tNd) 0 (i + (l.length - j)) l.length rfl rfl rfl rfl (by simp [Value.cells, Value.oneCell']) (by omega) (by omega) (by omega) ?_)
  refine JL.norm ?_
  refine Ln ?_
  refine Sr ?_
  refine Lq (Q_move rfl) ?_
  refine Lq (Q_assign rfl) ?_
  refine Ln ?_
  refine J_ret ?_
  exact retQ_ret _ [slc tNd true T (l.take i ++ l.drop j)] (.cons (RV_tmp rfl) .nil) ⟨T, rfl, rfl⟩ (Ent.refl _)
theorem kvcloneG (E : World) (C : HProp) (U : SV) (m : List Kv) (hC : ∀ w L, Sat E w (C :: L) → Rd tKv w U m) (hl : m.length ≤ 100000000) : Does Tryz.prog E 114 [U.v] [C] fun v L => ∃ V : SV, v = V.v ∧ L = [C, slc tKv true V m] := by
 refine Does.of Tryz.func114 rfl Tryz.ntmps114 rfl rfl fun F => ?_
 refine J.norm ?_
 refine J.have (p := U.n = m.length ∧ U.n ≤ U.c ∧ ((U.a = none ∧ U.c = 0) ∨ ∃ a, U.a = some a)) (fun w hs => ⟨(hC w _ hs).1, (hC w _ hs).2.1, (hC w _ hs).2.2.imp id fun ⟨a, h, _⟩ => ⟨a, h⟩⟩) fun ⟨hn, hc, ha⟩ => ?_
 refine Sr ?_
 refine Lq (Q_assign rfl) ?_
 refine Ln ?_
 refine J_seq ?_
 refine J_seq ?_
 cases h : U.a with
 | none =>
  have h0 : m = [] := List.eq_nil_of_length_eq_zero (by
   rcases ha with ⟨_, h0⟩ | ⟨a, h1⟩
   ·omega
   ·rw [h] at h1; cases h1)
  subst h0
  refine J_region ?_
  refine Lq (Q_move rfl) ?_
  refine Lq ((Q_slnil (S := U) rfl rfl).as (v' := .bool true) (by rw [h]; rfl)) ?_
  refine Ln ?_
  refine J_condT rfl ?_
  refine Sr ?_
  refine Lq (Q_assign rfl) ?_
  refine Ln ?_
  refine J_ret ?_
  refine seqQ_ret ?_
  refine retQ_ret _ [C, slc tKv true SV.nil []] (.cons (RV_tmp rfl) .nil) ⟨SV.nil, rfl, rfl⟩ ?_
  exact (Ent.mk fun _ _ h => (h.lay_nil tKv true : Sat _ _ (slc tKv true SV.nil [] :: _))).trans (Ent.re [1,0,2] rfl)
 | some a =>
  refine J_region ?_
  refine Lq (Q_move rfl) ?_
  refine Lq ((Q_slnil (S := U) rfl rfl).as (v' := .bool false) (by rw [h]; rfl)) ?_
  refine Ln ?_
  refine J_condF rfl ?_
  refine J_skip ?_
  refine seqQ_normal ?_
  refine Sr ?_
  refine L_o rfl rfl rfl (O_litP (τ := tKv) (m := 0) (sz := 2) [] rfl rfl rfl rfl rfl rfl (by decide) (fun V => ?_))
  refine JL.norm ?_
  refine Lq (Q_move rfl) ?_
  refine L_o rfl rfl rfl (O_app (τ := tKv) 0 rfl (fun w h => hC w _ ((h.pick [1] rfl) : Sat E w (pick [1] _))) rfl rfl rfl rfl (by simp; omega) (by decide) (fun W => ?_))
  refine JL.norm ?_
  refine Lq (Q_assign rfl) ?_
  refine Ln ?_
  refine J_ret ?_
  exact retQ_ret _ [C, slc tKv true W m] (.cons (RV_tmp rfl) .nil) ⟨W, rfl, rfl⟩ (Ent.re [1,0,2] rfl)
theorem ndcloneG (E : World) (C : HProp) (U : SV) (m : List (Option Nat)) (hC : ∀ w L, Sat E w (C :: L) → Rd tNd w U m) (hl : m.length ≤ 100000000) : Does Tryz.prog E 115 [U.v] [C] fun v L => ∃ V : SV, v = V.v ∧ L = [C, slc tNd true V m] := by
 refine Does.of Tryz.func115 rfl Tryz.ntmps115 rfl rfl fun F => ?_
 refine J.norm ?_
 refine J.have (p := U.n = m.length ∧ U.n ≤ U.c ∧ ((U.a = none ∧ U.c = 0) ∨ ∃ a, U.a = some a)) (fun w hs => ⟨(hC w _ hs).1, (hC w _ hs).2.1, (hC w _ hs).2.2.imp id fun ⟨a, h, _⟩ => ⟨a, h⟩⟩) fun ⟨hn, hc, ha⟩ => ?_
 refine Sr ?_
 refine Lq (Q_assign rfl) ?_
 refine Ln ?_
 refine J_seq ?_
 refine J_seq ?_
 cases h : U.a with
 | none =>
  have h0 : m = [] := List.eq_nil_of_length_eq_zero (by
   rcases ha with ⟨_, h0⟩ | ⟨a, h1⟩
   ·omega
   ·rw [h] at h1; cases h1)
  subst h0
  refine J_region ?_
  refine Lq (Q_move rfl) ?_
  refine Lq ((Q_slnil (S := U) rfl rfl).as (v' := .bool true) (by rw [h]; rfl)) ?_
  refine Ln ?_
  refine J_condT rfl ?_
  refine Sr ?_
  refine Lq (Q_assign rfl) ?_
  refine Ln ?_
  refine J_ret ?_
  refine seqQ_ret ?_
  refine retQ_ret _ [C, slc tNd true SV.nil []] (.cons (RV_tmp rfl) .nil) ⟨SV.nil, rfl, rfl⟩ ?_
  exact (Ent.mk fun _ _ h => (h.lay_nil tNd true : Sat _ _ (slc tNd true SV.nil [] :: _))).trans (Ent.re [1,0,2] rfl)
 | some a =>
  refine J_region ?_
  refine Lq (Q_move rfl) ?_
  refine Lq ((Q_slnil (S := U) rfl rfl).as (v' := .bool false) (by rw [h]; rfl)) ?_
  refine Ln ?_
  refine J_condF rfl ?_
  refine J_skip ?_
  refine seqQ_normal ?_
  refine Sr ?_
  refine L_o rfl rfl rfl (O_litP (τ := tNd) (m := 0) (sz := 1) [] rfl rfl rfl rfl rfl rfl (by decide) (fun V => ?_))
  refine JL.norm ?_
  refine Lq (Q_move rfl) ?_
  refine L_o rfl rfl rfl (O_app (τ := tNd) 0 rfl (fun w h => hC w _ ((h.pick [1] rfl) : Sat E w (pick [1] _))) rfl rfl rfl rfl (by simp; omega) (by decide) (fun W => ?_))
  refine JL.norm ?_
  refine Lq (Q_assign rfl) ?_
  refine Ln ?_
  refine J_ret ?_
  exact retQ_ret _ [C, slc tNd true W m] (.cons (RV_tmp rfl) .nil) ⟨W, rfl, rfl⟩ (Ent.re [1,0,2] rfl)
end Go.Proofs.Bt
/- A node: how it lies; keys compared; a key's place. -/
set_option autoImplicit false
namespace Go.SL
def CmpFn (P : Program) (f : Nat) : Prop := ∃ fn : Func, P.funcs[f]? = some fn ∧ (fn.name == "runtime.NumGoroutine") = false ∧ fn.body.isNone = true ∧ Extern.findNext fn = none ∧ Extern.find fn = some Extern.BytealgCompare.compare
theorem O_cmp {P : Program} {E : World} {n : Nat} {ρ : Env} {L : List HProp} {dst : Option Tmp} {ty : TypeId} {pos : String} {after : Array Edge} {g : Option (Nat × Bool)} {K : Value → List HProp → Prop} {f : Nat} {x y : Operand} {ts : Array TypeId} {a b : List UInt8} (hf : CmpFn P f) (hx : ρ.ev x = some (str a)) (hy : ρ.ev y = some (str b)) (hK : K (.int .i64 (Lib.compareBytes a b)) L) :
 JOp P E n ⟨dst, .call ⟨.value (.func f), #[x, y], ts⟩, ty, pos, after, g⟩ K ρ L := fun c w ha hs next Q hn => by
 obtain ⟨fn, h1, h2, h3, h4, h5⟩ := hf
 unfold Oper.wp
 simp only [execOp, resolve]
 have e1 : (Array.map c.eval #[x, y]) = #[str a, str b] := by simp [ha.ev hx, ha.ev hy]
 have e2 : c.eval (.func f) = .func (.func f) #[] #[] := rfl
 simp only [e1, e2, Deferred.ofValue, run_bind_pure, invoke, Array.empty_append, Array.append_empty]
 rw [run_callFunc_extern h1 h2 h3 h4 h5, Lib.run_compareString]
 simp only [Result.andThen_ok]
 exact hn _ _ w hK hs
end Go.SL
namespace Go.Proofs.Bt
open Go.SL
abbrev posK (l : List Kv) (k : Ky) : Nat := (lo l k).length
theorem pos_le (l : List Kv) (k : Ky) : posK l k ≤ l.length := List.length_filter_le _ _
theorem lo_take {l : List Kv} (h : Up l) (k : Ky) : l.take (posK l k) = lo l k := by
 rcases up_lo_hi h k with ⟨u, hu⟩ | ⟨hu, _⟩
 ·have := List.take_left (l₁ := lo l k) (l₂ := ⟨k, u⟩ :: hi l k)
  rwa [← hu] at this
 ·have := List.take_left (l₁ := lo l k) (l₂ := hi l k)
  rwa [← hu] at this
theorem pos_lt {l : List Kv} (h : Up l) {k : Ky} {j : Nat} (hj : j < l.length) (hp : j < posK l k) : kl l[j].key k = true := by
 have h1 : l[j] ∈ lo l k := by
  rw [← lo_take h k, List.mem_iff_getElem]
  exact ⟨j, by simp; omega, by rw [List.getElem_take]⟩
 exact (List.mem_filter.1 h1).2
theorem pos_ge {l : List Kv} (h : Up l) {k : Ky} {j : Nat} (hj : j < l.length) (hp : posK l k ≤ j) : kl l[j].key k = false := by
 cases hx : kl l[j].key k with
 | false => rfl
 | true =>
  exfalso
  have key : ∀ (m : Nat) (hm : m ≤ j), kl (l[m]'(by omega)).key k = true := fun m hm => by
   rcases Nat.eq_or_lt_of_le hm with e | e
   ·subst e; exact hx
   ·exact kl_trans (List.pairwise_iff_getElem.1 h m j (by omega) hj e) hx
  have h1 : (l.take (j + 1)).filter (fun x => kl x.key k) = l.take (j + 1) := List.filter_eq_self.2 fun x hx => by
   obtain ⟨m, hm, rfl⟩ := List.getElem_of_mem hx
   rw [List.getElem_take]
   exact key m (by simp at hm; omega)
  have h2 : (lo l k).length = ((l.take (j + 1)).filter fun x => kl x.key k).length + ((l.drop (j + 1)).filter fun x => kl x.key k).length := by
   rw [← List.length_append, ← List.filter_append, List.take_append_drop]; rfl
  rw [h1, List.length_take] at h2
  have hpk : posK l k = (lo l k).length := rfl
  omega
theorem has_at {l : List Kv} (h : Up l) {k : Ky} (hh : hasL l k = true) : ∃ hp : posK l k < l.length, l[posK l k].key = k := by
 rcases up_lo_hi h k with ⟨u, hu⟩ | ⟨_, hf⟩
 ·have hl := congrArg List.length hu
  simp only [List.length_append, List.length_cons] at hl
  have hpk : posK l k = (lo l k).length := rfl
  refine ⟨by omega, ?_⟩
  have h2 : l[posK l k]? = some ⟨k, u⟩ := by
   rw [hu]
   rw [← hu]
   have := List.getElem?_append_right (l₁ := lo l k) (l₂ := ⟨k, u⟩ :: hi l k) (i := posK l k) (Nat.le_refl _)
   rw [← hu] at this
   rw [this]; simp
  rw [List.getElem?_eq_getElem (by omega)] at h2
  rw [Option.some.inj h2]
 ·rw [hf] at hh; cases hh
theorem at_has {l : List Kv} (h : Up l) {k : Ky} {j : Nat} (hj : j < l.length) (he : l[j].key = k) : hasL l k = true ∧ j = posK l k := by
 refine ⟨by unfold hasL; rw [List.any_eq_true]; exact ⟨l[j], List.getElem_mem hj, decide_eq_true he⟩, ?_⟩
 rcases Nat.lt_trichotomy j (posK l k) with h1 | h1 | h1
 ·have := pos_lt h hj h1; rw [he, kl_irr] at this; cases this
 ·exact h1
 ·have h2 := List.pairwise_iff_getElem.1 h (posK l k) j (by omega) hj h1
  rw [he] at h2
  have := pos_ge h (k := k) (j := posK l k) (by omega) (Nat.le_refl _)
  rw [h2] at this; cases this
abbrev ndC (p : Nat) (S Q : SV) : HProp := cel p [S.v, Q.v] 132
def nodeA : (d : Nat) → Nat → T d → HProp
 | 0, p, t => hex fun g : SV × SV => stars [ndC p g.1 g.2, slc tKv true g.1 (tks 0 t), slc tNd true g.2 []]
 | d + 1, p, t => hex fun g : SV × SV × List (Nat × T d) => star (pur (g.2.2.map (·.2) = t.2)) (stars [ndC p g.1 g.2.1, slc tKv true g.1 t.1, slc tNd true g.2.1 (g.2.2.map fun e => some e.1), stars (g.2.2.map fun e => nodeA d e.1 e.2)])
abbrev ndE (d : Nat) (e : Nat × T d) : HProp := nodeA d e.1 e.2
theorem Ent.leafA {p : Nat} {t : T 0} {S Q : SV} {L : List HProp} : Ent (ndC p S Q :: slc tKv true S (tks 0 t) :: slc tNd true Q [] :: L) (nodeA 0 p t :: L) := fun E w h => by
 have h1 := Sat.rot (A := [ndC p S Q, slc tKv true S (tks 0 t), slc tNd true Q []]) (B := L) h
 have h3 : Sat E w (stars [ndC p S Q, slc tKv true S (tks 0 t), slc tNd true Q []] :: L) := Sat.rot (A := L) h1.fold
 exact h3.mkex (f := fun g : SV × SV => stars [ndC p g.1 g.2, slc tKv true g.1 (tks 0 t), slc tNd true g.2 []]) (S, Q)
theorem Ent.innerA {d p : Nat} {K : List Kv} {C : List (T d)} {S Q : SV} {es : List (Nat × T d)} {L : List HProp} (hC : es.map (·.2) = C) : Ent (ndC p S Q :: slc tKv true S K :: slc tNd true Q (es.map fun e => some e.1) :: stars (es.map (ndE d)) :: L) (nodeA (d + 1) p (K, C) :: L) := fun E w h => by
 have h1 := Sat.rot (A := [ndC p S Q, slc tKv true S K, slc tNd true Q (es.map fun e => some e.1), stars (es.map (ndE d))]) (B := L) h
 have h3 : Sat E w (stars [ndC p S Q, slc tKv true S K, slc tNd true Q (es.map fun e => some e.1), stars (es.map (ndE d))] :: L) := Sat.rot (A := L) h1.fold
 have h4 : Sat E w (pur (es.map (·.2) = C) :: stars [ndC p S Q, slc tKv true S K, slc tNd true Q (es.map fun e => some e.1), stars (es.map (ndE d))] :: L) := h3.lay fun _ => hC
 exact (h4.mkstar).mkex (f := fun g : SV × SV × List (Nat × T d) => star (pur (g.2.2.map (·.2) = C)) (stars [ndC p g.1 g.2.1, slc tKv true g.1 K, slc tNd true g.2.1 (g.2.2.map fun e => some e.1), stars (g.2.2.map fun e => nodeA d e.1 e.2)])) (S, Q, es)
theorem Sat.leaf_out {E w : World} {p : Nat} {t : T 0} {L : List HProp} (h : Sat E w (nodeA 0 p t :: L)) : ∃ g : SV × SV, Sat E w (ndC p g.1 g.2 :: slc tKv true g.1 (tks 0 t) :: slc tNd true g.2 [] :: L) := by
 obtain ⟨g, hg⟩ := Sat.ex (f := fun g : SV × SV => stars [ndC p g.1 g.2, slc tKv true g.1 (tks 0 t), slc tNd true g.2 []]) h
 exact ⟨g, Sat.rot (A := L) (hg.rot (A := [_]) (B := L)).unfold⟩
theorem Sat.inner_out {E w : World} {d p : Nat} {t : T (d + 1)} {L : List HProp} (h : Sat E w (nodeA (d + 1) p t :: L)) : ∃ g : { g : SV × SV × List (Nat × T d) // g.2.2.map (·.2) = t.2 }, Sat E w (ndC p g.1.1 g.1.2.1 :: slc tKv true g.1.1 t.1 :: slc tNd true g.1.2.1 (g.1.2.2.map fun e => some e.1) :: stars (g.1.2.2.map (ndE d)) :: L) := by
 obtain ⟨g, hg⟩ := Sat.ex (f := fun g : SV × SV × List (Nat × T d) => star (pur (g.2.2.map (·.2) = t.2)) (stars [ndC p g.1 g.2.1, slc tKv true g.1 t.1, slc tNd true g.2.1 (g.2.2.map fun e => some e.1), stars (g.2.2.map fun e => nodeA d e.1 e.2)])) h
 obtain ⟨hm, h2⟩ := hg.star.fact
 exact ⟨⟨g, hm⟩, Sat.rot (A := L) (h2.rot (A := [_]) (B := L)).unfold⟩
theorem J.leaf {P : Program} {E : World} {n : Nat} {c : Code} {Q : Post} {ρ : Env} {p : Nat} {t : T 0} {L : List HProp} (h : ∀ S R, J P E n c Q ρ (ndC p S R :: slc tKv true S (tks 0 t) :: slc tNd true R [] :: L)) : J P E n c Q ρ (nodeA 0 p t :: L) :=
 J.open (fun _ hs => Sat.leaf_out hs) fun g => h g.1 g.2
theorem J.inner {P : Program} {E : World} {n : Nat} {c : Code} {Q : Post} {ρ : Env} {d p : Nat} {t : T (d + 1)} {L : List HProp} (h : ∀ (S R : SV) (es : List (Nat × T d)), es.map (·.2) = t.2 → J P E n c Q ρ (ndC p S R :: slc tKv true S t.1 :: slc tNd true R (es.map fun e => some e.1) :: stars (es.map (ndE d)) :: L)) : J P E n c Q ρ (nodeA (d + 1) p t :: L) :=
 J.open (fun _ hs => Sat.inner_out hs) fun g => h g.1.1 g.1.2.1 g.1.2.2 g.2
attribute [local irreducible] J JL QOp JOp seqQ blockQ loopQ retQ slc cel hex star pur stars Does RV Ent pAt scopeQ
theorem cmps_ok (E : World) (a b : Ky) : Does Tryz.prog E 111 [str a, str b] [] fun v L => v = .int .i64 (Lib.compareBytes a b) ∧ L = [] := by
 have hf : CmpFn Tryz.prog 128 := ⟨_, Tryz.func128, by kernel_rfl, by kernel_rfl, by kernel_rfl, by kernel_rfl⟩
 refine Does.of Tryz.func111 rfl Tryz.ntmps111 rfl rfl fun F => ?_
 refine J.norm ?_
 refine Sr ?_
 refine Lq (Q_assign rfl) ?_
 refine Ln ?_
 refine Sr ?_
 refine Lq (Q_move rfl) ?_
 refine Lq (Q_move rfl) ?_
 refine L_o rfl rfl rfl (O_cmp hf rfl rfl ?_)
 refine JL.norm ?_
 refine Lq (Q_assign rfl) ?_
 refine Ln ?_
 refine J_ret ?_
 exact retQ_ret _ [] (.cons (RV_tmp rfl) .nil) ⟨rfl, rfl⟩ (Ent.refl _)
theorem compare_ok (E : World) (a b : Ky) : Does Tryz.prog E 94 [str a, str b] [] fun v L => v = .int .i64 (Lib.compareBytes a b) ∧ L = [] := by
 refine Does.of Tryz.func94 rfl Tryz.ntmps94 rfl rfl fun F => ?_
 refine J.norm ?_
 refine Sr ?_
 refine Lq (Q_assign rfl) ?_
 refine Ln ?_
 refine Sr ?_
 refine Lq (Q_move rfl) ?_
 refine Lq (Q_move rfl) ?_
 refine L_o rfl rfl rfl (O_call [] [0] (cmps_ok E a b) rfl rfl ?_)
 rintro _ _ ⟨rfl, rfl⟩
 refine JL.norm ?_
 refine Lq (Q_assign rfl) ?_
 refine Ln ?_
 refine J_ret ?_
 exact retQ_ret _ [] (.cons (RV_tmp rfl) .nil) ⟨rfl, rfl⟩ (Ent.refl _)
theorem find1_ok (E : World) (x : Kv) (c : Nat) (k : Ky) : Does Tryz.prog E 93 [.agg (kvV x).toArray, .pointer (some ⟨c, 0, none⟩)] [cel c [str k] 9] fun v L => v = .int .i64 (Lib.compareBytes x.key k) ∧ L = [cel c [str k] 9] := by
 refine Does.of Tryz.func93 rfl Tryz.ntmps93 rfl rfl fun F => ?_
 refine J.norm ?_
 refine Sr ?_
 refine L_o rfl rfl rfl (O_box rfl fun b2 => ?_)
 refine Lq (Q_assign rfl) ?_
 refine Ln ?_
 refine Sr ?_
 refine Lq (Q_fa0 rfl) ?_
 refine Lq (Q_ld 0 rfl rfl rfl rfl) ?_
 refine Lq (Q_ld 1 rfl rfl rfl rfl) ?_
 refine L_o rfl rfl rfl (O_call [] [0,1,2] (compare_ok E x.key k) rfl rfl ?_)
 rintro _ _ ⟨rfl, rfl⟩
 refine JL.norm ?_
 refine Lq (Q_assign rfl) ?_
 refine Ln ?_
 refine J_ret ?_
 exact retQ_ret _ [cel c [str k] 9] (.cons (RV_tmp rfl) .nil) ⟨rfl, rfl⟩ (Ent.re [1,2] rfl)
theorem search_ok (E : World) (S : SV) (l : List Kv) (c : Nat) (k : Ky) (hl : l.length ≤ 1000) (hs : Up l) : Does Tryz.prog E 92 [S.v, .func (.func 93) #[] #[.pointer (some ⟨c, 0, none⟩)]] [slc tKv true S l, cel c [str k] 9]
 fun v L => v = .tuple #[.int .i64 (posK l k : Int), .bool (hasL l k)] ∧ L = [slc tKv true S l, cel c [str k] 9] := by
 have hpl := pos_le l k
 refine Does.of Tryz.func92 rfl Tryz.ntmps92 rfl rfl fun F => ?_
 refine J.norm ?_
 refine Sr ?_
 refine Lq (Q_assign rfl) ?_
 refine Lq (Q_assign rfl) ?_
 refine Ln ?_
 refine Sr ?_
 refine Lq (Q_move rfl) ?_
 refine Lq (Q_lenAt 0 rfl rfl) ?_
 refine Lq (Q_assign rfl) ?_
 refine Lq (Q_assign rfl) ?_
 refine Ln ?_
 refine J_seq ?_
 refine J_block ?_
 refine J_loop (fun i : Nat × Nat => i.1 ≤ posK l k ∧ posK l k ≤ i.2 ∧ i.2 ≤ l.length ∧ (hasL l k = true → posK l k < i.2)) (fun i => [(0, S.v), (1, .func (.func 93) #[] #[.pointer (some ⟨c, 0, none⟩)]), (6, .int .i64 (i.1 : Int)), (7, .int .i64 (i.2 : Int))]) (fun _ => [slc tKv true S l, cel c [str k] 9, F]) (fun i => i.2 - i.1) (0, l.length) ⟨Nat.zero_le _, hpl, Nat.le_refl _, fun h => (has_at hs h).1⟩ ⟨rfl, rfl, rfl, rfl, trivial⟩ (Ent.refl _) ?_
 rintro ⟨lw, hg⟩ ⟨i1, i2, i3, i4⟩
 dsimp only at i1 i2 i3 i4 ⊢
 refine J_seq ?_
 refine Sr ?_
 refine Lq (Q_move rfl) ?_
 refine Lq (Q_move rfl) ?_
 refine Lq (Q_lss rfl rfl) ?_
 refine Ln ?_
 refine J_condD rfl (fun h => ?_) (fun h => ?_)
 ·have hlh : lw < hg := by omega
  have hq : ((lw : Int) + (hg : Int)).tdiv 2 = (((lw + hg) / 2 : Nat) : Int) := by
   have := Int.tdiv_eq_ediv_of_nonneg (a := (lw : Int) + hg) (b := 2) (by omega)
   omega
  have hm1 : lw ≤ (lw + hg) / 2 ∧ (lw + hg) / 2 < hg := by omega
  refine J_skip ?_
  refine seqQ_normal ?_
  refine J_block ?_
  refine Sr ?_
  refine Lq (Q_move rfl) ?_
  refine Lq (Q_move rfl) ?_
  refine Lq (Q_add rfl rfl (by first | exact IntWalk.i64_in _ (by omega) | exact IntWalk.u8_in _ (by omega) | exact IntWalk.u32_in _ (by omega) | exact IntWalk.u64_in _ (by omega) | rfl)) ?_
  refine Lq (Q_quo (r := (((lw + hg) / 2 : Nat) : Int)) rfl rfl (by decide) (by rw [hq]; exact IntWalk.i64_in _ (by omega))) ?_
  refine Lq (Q_assign rfl) ?_
  refine Ln ?_
  refine J_seq ?_
  generalize (lw + hg) / 2 = mid at *
  have hmid : mid < l.length := by omega
  have hc := find1_ok E l[mid] c k
  rw [cmp_kl] at hc
  refine J_region ?_
  refine Lq (Q_move rfl) ?_
  refine Lq (Q_move rfl) ?_
  refine Lq (Q_move rfl) ?_
  refine Lq (Q_ixAt 0 mid rfl rfl rfl rfl hmid rfl) ?_
  refine Lq (Q_ldEAAt 0 mid 0 (vs := kvV l[mid]) rfl rfl rfl rfl hmid (by decide) rfl) ?_
  refine L_o rfl rfl rfl (O_dyn [1] [0,2] rfl rfl rfl hc rfl ?_)
  rintro _ _ ⟨rfl, rfl⟩
  refine JL.norm ?_
  refine Lq (Q_assign rfl) ?_
  refine Ln ?_
  refine J_seq ?_
  refine J_seq ?_
  rcases kl_tri l[mid].key k with e | e | e
  ·have hp : mid < posK l k := by
    rcases Nat.lt_or_ge mid (posK l k) with h2 | h2
    ·exact h2
    ·have := pos_ge hs hmid h2; rw [e] at this; cases this
   rw [if_pos e]
   refine J_region ?_
   refine Lq (Q_move rfl) ?_
   refine Lq ((Q_eql rfl rfl).as (v' := .bool false) rfl) ?_
   refine Ln ?_
   refine J_condF rfl ?_
   refine J_skip ?_
   refine seqQ_normal ?_
   refine Sr ?_
   refine Lq (Q_move rfl) ?_
   refine Lq ((Q_lss rfl rfl).as (v' := .bool true) rfl) ?_
   refine Ln ?_
   refine J_condT rfl ?_
   refine J_region ?_
   refine Lq (Q_move rfl) ?_
   refine Lq (Q_add rfl rfl (by first | exact IntWalk.i64_in _ (by omega) | exact IntWalk.u8_in _ (by omega) | exact IntWalk.u32_in _ (by omega) | exact IntWalk.u64_in _ (by omega) | rfl)) ?_
   refine Lq (Q_assign rfl) ?_
   refine JL_nil ?_
   refine blockQ_normal ?_
   exact loopQ_normal (mid + 1, hg) ⟨hp, i2, i3, i4⟩ (by simp only; omega) ⟨rfl, rfl, rfl, rfl, trivial⟩ (Ent.re [1,0,2] rfl)
  ·obtain ⟨h1, h2⟩ := at_has hs hmid e
   rw [e, kl_irr, if_neg (by simp), if_neg (by simp)]
   refine J_region ?_
   refine Lq (Q_move rfl) ?_
   refine Lq ((Q_eql rfl rfl).as (v' := .bool true) rfl) ?_
   refine Ln ?_
   refine J_condT rfl ?_
   refine Sr ?_
   refine Lq (Q_move rfl) ?_
   refine Lq (Q_assign rfl) ?_
   refine Lq (Q_assign rfl) ?_
   refine Ln ?_
   refine J_ret ?_
   refine seqQ_ret ?_
   refine blockQ_ret ?_
   refine loopQ_ret ?_
   refine blockQ_ret ?_
   refine seqQ_ret ?_
   exact retQ_ret _ [slc tKv true S l, cel c [str k] 9] (.cons (RV_tmp rfl) (.cons (RV_tmp rfl) .nil)) ⟨by rw [h1, ← h2]; rfl, rfl⟩ (Ent.re [1,0,2] rfl)
  ·have hp : posK l k ≤ mid := by
    rcases Nat.lt_or_ge mid (posK l k) with h2 | h2
    ·have := pos_lt hs hmid h2; rw [kl_asymm e] at this; cases this
    ·exact h2
   have hp2 : hasL l k = true → posK l k < mid := fun hh => by
    obtain ⟨h3, h4⟩ := has_at hs hh
    rcases Nat.eq_or_lt_of_le hp with h5 | h5
    ·simp only [h5] at h4; rw [h4, kl_irr] at e; cases e
    ·exact h5
   rw [kl_asymm e, if_neg (by simp), if_pos e]
   refine J_region ?_
   refine Lq (Q_move rfl) ?_
   refine Lq ((Q_eql rfl rfl).as (v' := .bool false) rfl) ?_
   refine Ln ?_
   refine J_condF rfl ?_
   refine J_skip ?_
   refine seqQ_normal ?_
   refine Sr ?_
   refine Lq (Q_move rfl) ?_
   refine Lq ((Q_lss rfl rfl).as (v' := .bool false) rfl) ?_
   refine Ln ?_
   refine J_condF rfl ?_
   refine J_region ?_
   refine Lq (Q_move rfl) ?_
   refine Lq (Q_assign rfl) ?_
   refine JL_nil ?_
   refine blockQ_normal ?_
   exact loopQ_normal (lw, mid) ⟨i1, hp, by simp only; omega, hp2⟩ (by simp only; omega) ⟨rfl, rfl, rfl, rfl, trivial⟩ (Ent.re [1,0,2] rfl)
 ·obtain rfl : lw = posK l k := by omega
  have hf : hasL l k = false := by
   cases hx : hasL l k with
   | false => rfl
   | true => have := i4 hx; omega
  refine J_exit ?_
  refine seqQ_exit ?_
  refine loopQ_exit ?_
  refine blockQ_hit ?_
  refine seqQ_normal ?_
  refine Sr ?_
  refine Lq (Q_move rfl) ?_
  refine Lq (Q_assign rfl) ?_
  refine Lq (Q_assign rfl) ?_
  refine Ln ?_
  refine J_ret ?_
  exact retQ_ret _ [slc tKv true S l, cel c [str k] 9] (.cons (RV_tmp rfl) (.cons (RV_tmp rfl) .nil)) ⟨by rw [hf]; rfl, rfl⟩ (Ent.refl _)
theorem find_ok (E : World) (p : Nat) (S R : SV) (l : List Kv) (k : Ky) (hl : l.length ≤ 1000) (hs : Up l) : Does Tryz.prog E 63 [.pointer (some ⟨p, 0, none⟩), str k] [ndC p S R, slc tKv true S l] fun v L => v = .tuple #[.int .i64 (posK l k : Int), .bool (hasL l k)] ∧ L = [ndC p S R, slc tKv true S l] := by
 refine Does.of Tryz.func63 rfl Tryz.ntmps63 rfl rfl fun F => ?_
 refine J.norm ?_
 refine Sr ?_
 refine L_o rfl rfl rfl (O_box rfl fun b3 => ?_)
 refine Lq (Q_assign rfl) ?_
 refine Lq (Q_assign rfl) ?_
 refine Ln ?_
 refine Sr ?_
 refine Lq (Q_move rfl) ?_
 refine Lq (Q_nilCheck rfl) ?_
 refine Lq (Q_fa0 rfl) ?_
 refine Lq (Q_ld 1 rfl rfl rfl rfl) ?_
 refine Lq (Q_makeFunc (xs := []) (ys := [.tmp 3]) (vs := []) (us := [.pointer (some ⟨b3, 0, none⟩)]) rfl rfl) ?_
 refine L_o rfl rfl rfl (O_call [2,0] [1,3] (search_ok E S l b3 k hl hs) rfl rfl ?_)
 rintro _ _ ⟨rfl, rfl⟩
 refine JL.norm ?_
 refine Lq (Q_extract (v := .int .i64 (posK l k : Int)) rfl rfl) ?_
 refine Lq (Q_extract (v := .bool (hasL l k)) rfl rfl) ?_
 refine Lq (Q_assign rfl) ?_
 refine Lq (Q_assign rfl) ?_
 refine Ln ?_
 refine J_ret ?_
 exact retQ_ret _ [ndC p S R, slc tKv true S l] (.cons (RV_tmp rfl) (.cons (RV_tmp rfl) .nil)) ⟨rfl, rfl⟩ (Ent.re [2,0,3] rfl)
theorem leaf_ok (E : World) (p : Nat) (S R : SV) (qs : List (Option Nat)) : Does Tryz.prog E 64 [.pointer (some ⟨p, 0, none⟩)] [ndC p S R, slc tNd true R qs] fun v L => v = .bool (decide ((qs.length : Int) = 0)) ∧ L = [ndC p S R, slc tNd true R qs] := by
 refine Does.of Tryz.func64 rfl Tryz.ntmps64 rfl rfl fun F => ?_
 refine J.norm ?_
 refine Sr ?_
 refine Lq (Q_assign rfl) ?_
 refine Ln ?_
 refine Sr ?_
 refine Lq (Q_move rfl) ?_
 refine Lq (Q_nilCheck rfl) ?_
 refine Lq (Q_fa0 rfl) ?_
 refine Lq (Q_ld 0 rfl rfl rfl rfl) ?_
 refine Lq (Q_lenAt 1 rfl rfl) ?_
 refine Lq (Q_eql rfl rfl) ?_
 refine Lq (Q_assign rfl) ?_
 refine Ln ?_
 refine J_ret ?_
 exact retQ_ret _ [ndC p S R, slc tNd true R qs] (.cons (RV_tmp rfl) .nil) ⟨rfl, rfl⟩ (Ent.refl _)
end Go.Proofs.Bt
