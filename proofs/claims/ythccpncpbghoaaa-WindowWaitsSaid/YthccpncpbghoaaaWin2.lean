/- The document's window, walked; numbers compared. -/
import Derived.Test.YthccpncpbghoaaaWin1
import Derived.Test.YthccpncpbghoaaaSl17
import Derived.Test.YthccpncpbghoaaaSl13
set_option autoImplicit false
namespace Go.Proofs
open Go.SL
def tZ : Ty Int := ⟨3, 1, fun n => [.int .i64 n], fun _ => rfl, by decide, fun a v hv => by simp at hv; subst hv; rfl⟩
instance : TyU Try.prog tZ.e (.int .i64) := inferInstanceAs (TyU Try.prog 3 (.int .i64))
instance : TyI Try.prog tZ.e 1 (.int .i64 0) 8 := inferInstanceAs (TyI Try.prog 3 1 (.int .i64 0) 8)
instance : TyU Try.prog 22 (.slice tZ.e) := inferInstanceAs (TyU Try.prog 22 (.slice 3))
attribute [local irreducible] J JL QOp JOp seqQ blockQ loopQ retQ slc cel hex star pur stars Does RV Ent pAt scopeQ
theorem ints_ok (E : World) (f1 f2 : Bool) (S T : SV) (l m : List Int) (hlb : l.length ≤ 1000000) : Does Try.prog E 22 [S.v, T.v] [slc tZ f1 S l, slc tZ f2 T m] fun v L => v = .bool (decide (l = m)) ∧ L = [slc tZ f1 S l, slc tZ f2 T m] := by
  refine Does.of Try.func22 rfl Try.ntmps22 rfl rfl fun F => ?_
  refine J.norm ?_
  repeat first
    | refine J_seq ?_
    | refine seqQ_normal ?_
    | refine J_condT rfl ?_
    | refine J_condF rfl ?_
    | refine J_block ?_
    | refine blockQ_normal ?_
    | refine J_exit ?_
    | refine seqQ_exit ?_
    | refine blockQ_hit ?_
    | refine blockQ_miss rfl ?_
    | refine J_skip ?_
    | refine J_ret ?_
    | refine seqQ_ret ?_
    | refine blockQ_ret ?_
    | refine loopQ_exit ?_
    | refine loopQ_ret ?_
    | refine J_label ?_
    | refine J_scope ?_
    | refine scopeQ_normal ?_
    | refine scopeQ_exit ?_
    | refine scopeQ_ret ?_
  refine J_region ?_
  refine L_q (Q_assign rfl) rfl rfl rfl ?_
  refine JL_nil ?_
  repeat first
    | refine J_seq ?_
    | refine seqQ_normal ?_
    | refine J_condT rfl ?_
    | refine J_condF rfl ?_
    | refine J_block ?_
    | refine blockQ_normal ?_
    | refine J_exit ?_
    | refine seqQ_exit ?_
    | refine blockQ_hit ?_
    | refine blockQ_miss rfl ?_
    | refine J_skip ?_
    | refine J_ret ?_
    | refine seqQ_ret ?_
    | refine blockQ_ret ?_
    | refine loopQ_exit ?_
    | refine loopQ_ret ?_
    | refine J_label ?_
    | refine J_scope ?_
    | refine scopeQ_normal ?_
    | refine scopeQ_exit ?_
    | refine scopeQ_ret ?_
  repeat first
    | refine J_seq ?_
    | refine seqQ_normal ?_
    | refine J_condT rfl ?_
    | refine J_condF rfl ?_
    | refine J_block ?_
    | refine blockQ_normal ?_
    | refine J_exit ?_
    | refine seqQ_exit ?_
    | refine blockQ_hit ?_
    | refine blockQ_miss rfl ?_
    | refine J_skip ?_
    | refine J_ret ?_
    | refine seqQ_ret ?_
    | refine blockQ_ret ?_
    | refine loopQ_exit ?_
    | refine loopQ_ret ?_
    | refine J_label ?_
    | refine J_scope ?_
    | refine scopeQ_normal ?_
    | refine scopeQ_exit ?_
    | refine scopeQ_ret ?_
  refine J_region ?_
  refine L_q (Q_move rfl) rfl rfl rfl ?_
  first
    | refine L_q (Q_lenAt 0 rfl rfl) rfl rfl rfl ?_
    | refine L_q (Q_lenAt 1 rfl rfl) rfl rfl rfl ?_
    | refine L_q (Q_lenAt 2 rfl rfl) rfl rfl rfl ?_
    | refine L_q (Q_lenAt 3 rfl rfl) rfl rfl rfl ?_
    | refine L_q (Q_lenAt 4 rfl rfl) rfl rfl rfl ?_
    | refine L_q (Q_lenAt 5 rfl rfl) rfl rfl rfl ?_
    | refine L_q (Q_lenAt 6 rfl rfl) rfl rfl rfl ?_
    | refine L_q (Q_lenAt 7 rfl rfl) rfl rfl rfl ?_
    | refine L_q (Q_lenAt 8 rfl rfl) rfl rfl rfl ?_
    | refine L_q (Q_lenAt 9 rfl rfl) rfl rfl rfl ?_
  refine L_q (Q_move rfl) rfl rfl rfl ?_
  first
    | refine L_q (Q_lenAt 0 rfl rfl) rfl rfl rfl ?_
    | refine L_q (Q_lenAt 1 rfl rfl) rfl rfl rfl ?_
    | refine L_q (Q_lenAt 2 rfl rfl) rfl rfl rfl ?_
    | refine L_q (Q_lenAt 3 rfl rfl) rfl rfl rfl ?_
    | refine L_q (Q_lenAt 4 rfl rfl) rfl rfl rfl ?_
    | refine L_q (Q_lenAt 5 rfl rfl) rfl rfl rfl ?_
    | refine L_q (Q_lenAt 6 rfl rfl) rfl rfl rfl ?_
    | refine L_q (Q_lenAt 7 rfl rfl) rfl rfl rfl ?_
    | refine L_q (Q_lenAt 8 rfl rfl) rfl rfl rfl ?_
    | refine L_q (Q_lenAt 9 rfl rfl) rfl rfl rfl ?_
  refine L_q (Q_neq rfl rfl) rfl rfl rfl ?_
  refine JL_nil ?_
  repeat first
    | refine J_seq ?_
    | refine seqQ_normal ?_
    | refine J_condT rfl ?_
    | refine J_condF rfl ?_
    | refine J_block ?_
    | refine blockQ_normal ?_
    | refine J_exit ?_
    | refine seqQ_exit ?_
    | refine blockQ_hit ?_
    | refine blockQ_miss rfl ?_
    | refine J_skip ?_
    | refine J_ret ?_
    | refine seqQ_ret ?_
    | refine blockQ_ret ?_
    | refine loopQ_exit ?_
    | refine loopQ_ret ?_
    | refine J_label ?_
    | refine J_scope ?_
    | refine scopeQ_normal ?_
    | refine scopeQ_exit ?_
    | refine scopeQ_ret ?_
  refine J_condD rfl (fun h => ?_) (fun h => ?_)
  · have e : decide (l = m) = false := decide_eq_false (by rintro rfl; exact h rfl)
    rw [e]
    repeat first
      | refine J_seq ?_
      | refine seqQ_normal ?_
      | refine J_condT rfl ?_
      | refine J_condF rfl ?_
      | refine J_block ?_
      | refine blockQ_normal ?_
      | refine J_exit ?_
      | refine seqQ_exit ?_
      | refine blockQ_hit ?_
      | refine blockQ_miss rfl ?_
      | refine J_skip ?_
      | refine J_ret ?_
      | refine seqQ_ret ?_
      | refine blockQ_ret ?_
      | refine loopQ_exit ?_
      | refine loopQ_ret ?_
      | refine J_label ?_
      | refine J_scope ?_
      | refine scopeQ_normal ?_
      | refine scopeQ_exit ?_
      | refine scopeQ_ret ?_
    refine J_region ?_
    refine L_q (Q_assign rfl) rfl rfl rfl ?_
    refine JL_nil ?_
    repeat first
      | refine J_seq ?_
      | refine seqQ_normal ?_
      | refine J_condT rfl ?_
      | refine J_condF rfl ?_
      | refine J_block ?_
      | refine blockQ_normal ?_
      | refine J_exit ?_
      | refine seqQ_exit ?_
      | refine blockQ_hit ?_
      | refine blockQ_miss rfl ?_
      | refine J_skip ?_
      | refine J_ret ?_
      | refine seqQ_ret ?_
      | refine blockQ_ret ?_
      | refine loopQ_exit ?_
      | refine loopQ_ret ?_
      | refine J_label ?_
      | refine J_scope ?_
      | refine scopeQ_normal ?_
      | refine scopeQ_exit ?_
      | refine scopeQ_ret ?_
    exact retQ_ret _ [slc tZ f1 S l, slc tZ f2 T m] (.cons (RV_tmp rfl) .nil) ⟨rfl, rfl⟩ (Ent.refl _)
  have hlm : l.length = m.length := by omega
  repeat first
    | refine J_seq ?_
    | refine seqQ_normal ?_
    | refine J_condT rfl ?_
    | refine J_condF rfl ?_
    | refine J_block ?_
    | refine blockQ_normal ?_
    | refine J_exit ?_
    | refine seqQ_exit ?_
    | refine blockQ_hit ?_
    | refine blockQ_miss rfl ?_
    | refine J_skip ?_
    | refine J_ret ?_
    | refine seqQ_ret ?_
    | refine blockQ_ret ?_
    | refine loopQ_exit ?_
    | refine loopQ_ret ?_
    | refine J_label ?_
    | refine J_scope ?_
    | refine scopeQ_normal ?_
    | refine scopeQ_exit ?_
    | refine scopeQ_ret ?_
  refine J_region ?_
  refine L_q (Q_assign rfl) rfl rfl rfl ?_
  refine JL_nil ?_
  repeat first
    | refine J_seq ?_
    | refine seqQ_normal ?_
    | refine J_condT rfl ?_
    | refine J_condF rfl ?_
    | refine J_block ?_
    | refine blockQ_normal ?_
    | refine J_exit ?_
    | refine seqQ_exit ?_
    | refine blockQ_hit ?_
    | refine blockQ_miss rfl ?_
    | refine J_skip ?_
    | refine J_ret ?_
    | refine seqQ_ret ?_
    | refine blockQ_ret ?_
    | refine loopQ_exit ?_
    | refine loopQ_ret ?_
    | refine J_label ?_
    | refine J_scope ?_
    | refine scopeQ_normal ?_
    | refine scopeQ_exit ?_
    | refine scopeQ_ret ?_
  refine J_loop (fun i : Nat => i ≤ l.length ∧ l.take i = m.take i) (fun i => [(0, S.v), (1, T.v), (5, .int .i64 (i : Int))])
    (fun _ => [slc tZ f1 S l, slc tZ f2 T m, F]) (fun i => l.length - i) 0 ⟨by omega, rfl⟩ ⟨rfl, rfl, rfl, trivial⟩ (Ent.refl _) ?_
  rintro k ⟨hk, he⟩
  repeat first
    | refine J_seq ?_
    | refine seqQ_normal ?_
    | refine J_condT rfl ?_
    | refine J_condF rfl ?_
    | refine J_block ?_
    | refine blockQ_normal ?_
    | refine J_exit ?_
    | refine seqQ_exit ?_
    | refine blockQ_hit ?_
    | refine blockQ_miss rfl ?_
    | refine J_skip ?_
    | refine J_ret ?_
    | refine seqQ_ret ?_
    | refine blockQ_ret ?_
    | refine loopQ_exit ?_
    | refine loopQ_ret ?_
    | refine J_label ?_
    | refine J_scope ?_
    | refine scopeQ_normal ?_
    | refine scopeQ_exit ?_
    | refine scopeQ_ret ?_
  refine J_region ?_
  refine L_q (Q_move rfl) rfl rfl rfl ?_
  refine L_q (Q_move rfl) rfl rfl rfl ?_
  first
    | refine L_q (Q_lenAt 0 rfl rfl) rfl rfl rfl ?_
    | refine L_q (Q_lenAt 1 rfl rfl) rfl rfl rfl ?_
    | refine L_q (Q_lenAt 2 rfl rfl) rfl rfl rfl ?_
    | refine L_q (Q_lenAt 3 rfl rfl) rfl rfl rfl ?_
    | refine L_q (Q_lenAt 4 rfl rfl) rfl rfl rfl ?_
    | refine L_q (Q_lenAt 5 rfl rfl) rfl rfl rfl ?_
    | refine L_q (Q_lenAt 6 rfl rfl) rfl rfl rfl ?_
    | refine L_q (Q_lenAt 7 rfl rfl) rfl rfl rfl ?_
    | refine L_q (Q_lenAt 8 rfl rfl) rfl rfl rfl ?_
    | refine L_q (Q_lenAt 9 rfl rfl) rfl rfl rfl ?_
  refine L_q (Q_lss rfl rfl) rfl rfl rfl ?_
  refine JL_nil ?_
  repeat first
    | refine J_seq ?_
    | refine seqQ_normal ?_
    | refine J_condT rfl ?_
    | refine J_condF rfl ?_
    | refine J_block ?_
    | refine blockQ_normal ?_
    | refine J_exit ?_
    | refine seqQ_exit ?_
    | refine blockQ_hit ?_
    | refine blockQ_miss rfl ?_
    | refine J_skip ?_
    | refine J_ret ?_
    | refine seqQ_ret ?_
    | refine blockQ_ret ?_
    | refine loopQ_exit ?_
    | refine loopQ_ret ?_
    | refine J_label ?_
    | refine J_scope ?_
    | refine scopeQ_normal ?_
    | refine scopeQ_exit ?_
    | refine scopeQ_ret ?_
  refine J_condD rfl (fun h2 => ?_) (fun h2 => ?_)
  · have hl1 : k < l.length := by omega
    have hm1 : k < m.length := by omega
    by_cases hd : l[k] = m[k]
    · repeat first
        | refine J_seq ?_
        | refine seqQ_normal ?_
        | refine J_condT rfl ?_
        | refine J_condF rfl ?_
        | refine J_block ?_
        | refine blockQ_normal ?_
        | refine J_exit ?_
        | refine seqQ_exit ?_
        | refine blockQ_hit ?_
        | refine blockQ_miss rfl ?_
        | refine J_skip ?_
        | refine J_ret ?_
        | refine seqQ_ret ?_
        | refine blockQ_ret ?_
        | refine loopQ_exit ?_
        | refine loopQ_ret ?_
        | refine J_label ?_
        | refine J_scope ?_
        | refine scopeQ_normal ?_
        | refine scopeQ_exit ?_
        | refine scopeQ_ret ?_
      refine J_drawH [0,1] [0, 1, 2, 3, 4, 5, 6, 7, 8] (.quiet 0 (.quiet 1 (.quiet 2 (.quiet 3 (.quiet 4 (.quiet 5 (.quiet 6 (.quiet 7 (.quiet 8 .done))))))))) Try.mixed (by kernel_rfl) (by kernel_rfl) (by repeat (first | exact retQ_noP | refine seqQ_noP ?_ | refine blockQ_noP ?_ | refine loopQ_noP ?_ | refine scopeQ_noP ?_)) ?_
      refine S_q (Ent.re [0,1] rfl) rfl (Q_move rfl) rfl rfl rfl ?_
      refine S_q (Ent.re [0,1] rfl) rfl (Q_move rfl) rfl rfl rfl ?_
      refine S_q (Ent.re [0,1] rfl) rfl (Q_ixAt 0 k rfl rfl rfl rfl hl1 rfl) rfl rfl rfl ?_
      refine S_q (Ent.re [0,1] rfl) rfl (Q_ldEAt 0 k 0 (v := .int .i64 l[k]) rfl rfl rfl rfl hl1 (by decide) rfl) rfl rfl rfl ?_
      refine S_q (Ent.re [0,1] rfl) rfl (Q_move rfl) rfl rfl rfl ?_
      refine S_q (Ent.re [0,1] rfl) rfl (Q_move rfl) rfl rfl rfl ?_
      refine S_q (Ent.re [0,1] rfl) rfl (Q_ixAt 1 k rfl rfl rfl rfl hm1 rfl) rfl rfl rfl ?_
      refine S_q (Ent.re [0,1] rfl) rfl (Q_ldEAt 1 k 0 (v := .int .i64 m[k]) rfl rfl rfl rfl hm1 (by decide) rfl) rfl rfl rfl ?_
      refine S_q (Ent.re [0,1] rfl) rfl ((Q_neq rfl rfl).as (v' := .bool false) (congrArg Value.bool (decide_eq_false (by simp [hd])))) rfl rfl rfl ?_
      refine S_nil ?_
      repeat first
        | refine J_seq ?_
        | refine seqQ_normal ?_
        | refine J_condT rfl ?_
        | refine J_condF rfl ?_
        | refine J_block ?_
        | refine blockQ_normal ?_
        | refine J_exit ?_
        | refine seqQ_exit ?_
        | refine blockQ_hit ?_
        | refine blockQ_miss rfl ?_
        | refine J_skip ?_
        | refine J_ret ?_
        | refine seqQ_ret ?_
        | refine blockQ_ret ?_
        | refine loopQ_exit ?_
        | refine loopQ_ret ?_
        | refine J_label ?_
        | refine J_scope ?_
        | refine scopeQ_normal ?_
        | refine scopeQ_exit ?_
        | refine scopeQ_ret ?_
      repeat first
        | refine J_seq ?_
        | refine seqQ_normal ?_
        | refine J_condT rfl ?_
        | refine J_condF rfl ?_
        | refine J_block ?_
        | refine blockQ_normal ?_
        | refine J_exit ?_
        | refine seqQ_exit ?_
        | refine blockQ_hit ?_
        | refine blockQ_miss rfl ?_
        | refine J_skip ?_
        | refine J_ret ?_
        | refine seqQ_ret ?_
        | refine blockQ_ret ?_
        | refine loopQ_exit ?_
        | refine loopQ_ret ?_
        | refine J_label ?_
        | refine J_scope ?_
        | refine scopeQ_normal ?_
        | refine scopeQ_exit ?_
        | refine scopeQ_ret ?_
      refine J_region ?_
      refine L_q (Q_move rfl) rfl rfl rfl ?_
      refine L_q (Q_add rfl rfl (by first | exact IntWalk.i64_in _ (by omega) | exact IntWalk.u8_in _ (by omega) | exact IntWalk.u32_in _ (by omega) | exact IntWalk.u64_in _ (by omega) | rfl)) rfl rfl rfl ?_
      refine L_q (Q_assign rfl) rfl rfl rfl ?_
      refine JL_nil ?_
      repeat first
        | refine J_seq ?_
        | refine seqQ_normal ?_
        | refine J_condT rfl ?_
        | refine J_condF rfl ?_
        | refine J_block ?_
        | refine blockQ_normal ?_
        | refine J_exit ?_
        | refine seqQ_exit ?_
        | refine blockQ_hit ?_
        | refine blockQ_miss rfl ?_
        | refine J_skip ?_
        | refine J_ret ?_
        | refine seqQ_ret ?_
        | refine blockQ_ret ?_
        | refine loopQ_exit ?_
        | refine loopQ_ret ?_
        | refine J_label ?_
        | refine J_scope ?_
        | refine scopeQ_normal ?_
        | refine scopeQ_exit ?_
        | refine scopeQ_ret ?_
      refine loopQ_normal (k + 1) ⟨by omega, ?_⟩ (by omega) ⟨rfl, rfl, rfl, trivial⟩ (Ent.refl _)
      rw [List.take_succ_eq_append_getElem hl1, List.take_succ_eq_append_getElem hm1, he, hd]
    · have e : decide (l = m) = false := decide_eq_false (by rintro rfl; exact hd rfl)
      rw [e]
      repeat first
        | refine J_seq ?_
        | refine seqQ_normal ?_
        | refine J_condT rfl ?_
        | refine J_condF rfl ?_
        | refine J_block ?_
        | refine blockQ_normal ?_
        | refine J_exit ?_
        | refine seqQ_exit ?_
        | refine blockQ_hit ?_
        | refine blockQ_miss rfl ?_
        | refine J_skip ?_
        | refine J_ret ?_
        | refine seqQ_ret ?_
        | refine blockQ_ret ?_
        | refine loopQ_exit ?_
        | refine loopQ_ret ?_
        | refine J_label ?_
        | refine J_scope ?_
        | refine scopeQ_normal ?_
        | refine scopeQ_exit ?_
        | refine scopeQ_ret ?_
      refine J_drawH [0,1] [0, 1, 2, 3, 4, 5, 6, 7, 8] (.quiet 0 (.quiet 1 (.quiet 2 (.quiet 3 (.quiet 4 (.quiet 5 (.quiet 6 (.quiet 7 (.quiet 8 .done))))))))) Try.mixed (by kernel_rfl) (by kernel_rfl) (by repeat (first | exact retQ_noP | refine seqQ_noP ?_ | refine blockQ_noP ?_ | refine loopQ_noP ?_ | refine scopeQ_noP ?_)) ?_
      refine S_q (Ent.re [0,1] rfl) rfl (Q_move rfl) rfl rfl rfl ?_
      refine S_q (Ent.re [0,1] rfl) rfl (Q_move rfl) rfl rfl rfl ?_
      refine S_q (Ent.re [0,1] rfl) rfl (Q_ixAt 0 k rfl rfl rfl rfl hl1 rfl) rfl rfl rfl ?_
      refine S_q (Ent.re [0,1] rfl) rfl (Q_ldEAt 0 k 0 (v := .int .i64 l[k]) rfl rfl rfl rfl hl1 (by decide) rfl) rfl rfl rfl ?_
      refine S_q (Ent.re [0,1] rfl) rfl (Q_move rfl) rfl rfl rfl ?_
      refine S_q (Ent.re [0,1] rfl) rfl (Q_move rfl) rfl rfl rfl ?_
      refine S_q (Ent.re [0,1] rfl) rfl (Q_ixAt 1 k rfl rfl rfl rfl hm1 rfl) rfl rfl rfl ?_
      refine S_q (Ent.re [0,1] rfl) rfl (Q_ldEAt 1 k 0 (v := .int .i64 m[k]) rfl rfl rfl rfl hm1 (by decide) rfl) rfl rfl rfl ?_
      refine S_q (Ent.re [0,1] rfl) rfl ((Q_neq rfl rfl).as (v' := .bool true) (congrArg Value.bool (decide_eq_true hd))) rfl rfl rfl ?_
      refine S_nil ?_
      repeat first
        | refine J_seq ?_
        | refine seqQ_normal ?_
        | refine J_condT rfl ?_
        | refine J_condF rfl ?_
        | refine J_block ?_
        | refine blockQ_normal ?_
        | refine J_exit ?_
        | refine seqQ_exit ?_
        | refine blockQ_hit ?_
        | refine blockQ_miss rfl ?_
        | refine J_skip ?_
        | refine J_ret ?_
        | refine seqQ_ret ?_
        | refine blockQ_ret ?_
        | refine loopQ_exit ?_
        | refine loopQ_ret ?_
        | refine J_label ?_
        | refine J_scope ?_
        | refine scopeQ_normal ?_
        | refine scopeQ_exit ?_
        | refine scopeQ_ret ?_
      repeat first
        | refine J_seq ?_
        | refine seqQ_normal ?_
        | refine J_condT rfl ?_
        | refine J_condF rfl ?_
        | refine J_block ?_
        | refine blockQ_normal ?_
        | refine J_exit ?_
        | refine seqQ_exit ?_
        | refine blockQ_hit ?_
        | refine blockQ_miss rfl ?_
        | refine J_skip ?_
        | refine J_ret ?_
        | refine seqQ_ret ?_
        | refine blockQ_ret ?_
        | refine loopQ_exit ?_
        | refine loopQ_ret ?_
        | refine J_label ?_
        | refine J_scope ?_
        | refine scopeQ_normal ?_
        | refine scopeQ_exit ?_
        | refine scopeQ_ret ?_
      refine J_region ?_
      refine L_q (Q_assign rfl) rfl rfl rfl ?_
      refine JL_nil ?_
      repeat first
        | refine J_seq ?_
        | refine seqQ_normal ?_
        | refine J_condT rfl ?_
        | refine J_condF rfl ?_
        | refine J_block ?_
        | refine blockQ_normal ?_
        | refine J_exit ?_
        | refine seqQ_exit ?_
        | refine blockQ_hit ?_
        | refine blockQ_miss rfl ?_
        | refine J_skip ?_
        | refine J_ret ?_
        | refine seqQ_ret ?_
        | refine blockQ_ret ?_
        | refine loopQ_exit ?_
        | refine loopQ_ret ?_
        | refine J_label ?_
        | refine J_scope ?_
        | refine scopeQ_normal ?_
        | refine scopeQ_exit ?_
        | refine scopeQ_ret ?_
      exact retQ_ret _ [slc tZ f1 S l, slc tZ f2 T m] (.cons (RV_tmp rfl) .nil) ⟨rfl, rfl⟩ (Ent.refl _)
  · obtain rfl : k = l.length := by omega
    rw [List.take_length, hlm, List.take_length] at he
    rw [decide_eq_true he]
    repeat first
      | refine J_seq ?_
      | refine seqQ_normal ?_
      | refine J_condT rfl ?_
      | refine J_condF rfl ?_
      | refine J_block ?_
      | refine blockQ_normal ?_
      | refine J_exit ?_
      | refine seqQ_exit ?_
      | refine blockQ_hit ?_
      | refine blockQ_miss rfl ?_
      | refine J_skip ?_
      | refine J_ret ?_
      | refine seqQ_ret ?_
      | refine blockQ_ret ?_
      | refine loopQ_exit ?_
      | refine loopQ_ret ?_
      | refine J_label ?_
      | refine J_scope ?_
      | refine scopeQ_normal ?_
      | refine scopeQ_exit ?_
      | refine scopeQ_ret ?_
    refine J_region ?_
    refine L_q (Q_assign rfl) rfl rfl rfl ?_
    refine JL_nil ?_
    repeat first
      | refine J_seq ?_
      | refine seqQ_normal ?_
      | refine J_condT rfl ?_
      | refine J_condF rfl ?_
      | refine J_block ?_
      | refine blockQ_normal ?_
      | refine J_exit ?_
      | refine seqQ_exit ?_
      | refine blockQ_hit ?_
      | refine blockQ_miss rfl ?_
      | refine J_skip ?_
      | refine J_ret ?_
      | refine seqQ_ret ?_
      | refine blockQ_ret ?_
      | refine loopQ_exit ?_
      | refine loopQ_ret ?_
      | refine J_label ?_
      | refine J_scope ?_
      | refine scopeQ_normal ?_
      | refine scopeQ_exit ?_
      | refine scopeQ_ret ?_
    exact retQ_ret _ [slc tZ f1 S l, slc tZ f2 T m] (.cons (RV_tmp rfl) .nil) ⟨rfl, rfl⟩ (Ent.refl _)
abbrev refW (size : Nat) (X : SV) : Value := .agg #[.int .i64 (size : Int), X.v]
theorem rwsize_ok (E : World) (z : Int) : Does Try.prog E 29 [.int .i64 z] [] fun v L => v = .int .i64 (winSize z : Int) ∧ L = [] := by
  refine Does.of Try.func29 rfl Try.ntmps29 rfl rfl fun F => ?_
  refine J.norm ?_
  repeat first
    | refine J_seq ?_
    | refine seqQ_normal ?_
    | refine J_condT rfl ?_
    | refine J_condF rfl ?_
    | refine J_block ?_
    | refine blockQ_normal ?_
    | refine J_exit ?_
    | refine seqQ_exit ?_
    | refine blockQ_hit ?_
    | refine blockQ_miss rfl ?_
    | refine J_skip ?_
    | refine J_ret ?_
    | refine seqQ_ret ?_
    | refine blockQ_ret ?_
    | refine loopQ_exit ?_
    | refine loopQ_ret ?_
    | refine J_label ?_
    | refine J_scope ?_
    | refine scopeQ_normal ?_
    | refine scopeQ_exit ?_
    | refine scopeQ_ret ?_
  refine J_region ?_
  refine L_q (Q_assign rfl) rfl rfl rfl ?_
  refine JL_nil ?_
  repeat first
    | refine J_seq ?_
    | refine seqQ_normal ?_
    | refine J_condT rfl ?_
    | refine J_condF rfl ?_
    | refine J_block ?_
    | refine blockQ_normal ?_
    | refine J_exit ?_
    | refine seqQ_exit ?_
    | refine blockQ_hit ?_
    | refine blockQ_miss rfl ?_
    | refine J_skip ?_
    | refine J_ret ?_
    | refine seqQ_ret ?_
    | refine blockQ_ret ?_
    | refine loopQ_exit ?_
    | refine loopQ_ret ?_
    | refine J_label ?_
    | refine J_scope ?_
    | refine scopeQ_normal ?_
    | refine scopeQ_exit ?_
    | refine scopeQ_ret ?_
  repeat first
    | refine J_seq ?_
    | refine seqQ_normal ?_
    | refine J_condT rfl ?_
    | refine J_condF rfl ?_
    | refine J_block ?_
    | refine blockQ_normal ?_
    | refine J_exit ?_
    | refine seqQ_exit ?_
    | refine blockQ_hit ?_
    | refine blockQ_miss rfl ?_
    | refine J_skip ?_
    | refine J_ret ?_
    | refine seqQ_ret ?_
    | refine blockQ_ret ?_
    | refine loopQ_exit ?_
    | refine loopQ_ret ?_
    | refine J_label ?_
    | refine J_scope ?_
    | refine scopeQ_normal ?_
    | refine scopeQ_exit ?_
    | refine scopeQ_ret ?_
  refine J_region ?_
  refine L_q (Q_move rfl) rfl rfl rfl ?_
  refine L_q (Q_max2 rfl rfl) rfl rfl rfl ?_
  refine L_q ((Q_min2 rfl rfl).as (congrArg (Value.int .i64) (winSize_eq z))) rfl rfl rfl ?_
  refine L_q (Q_assign rfl) rfl rfl rfl ?_
  refine JL_nil ?_
  repeat first
    | refine J_seq ?_
    | refine seqQ_normal ?_
    | refine J_condT rfl ?_
    | refine J_condF rfl ?_
    | refine J_block ?_
    | refine blockQ_normal ?_
    | refine J_exit ?_
    | refine seqQ_exit ?_
    | refine blockQ_hit ?_
    | refine blockQ_miss rfl ?_
    | refine J_skip ?_
    | refine J_ret ?_
    | refine seqQ_ret ?_
    | refine blockQ_ret ?_
    | refine loopQ_exit ?_
    | refine loopQ_ret ?_
    | refine J_label ?_
    | refine J_scope ?_
    | refine scopeQ_normal ?_
    | refine scopeQ_exit ?_
    | refine scopeQ_ret ?_
  exact retQ_ret _ [] (.cons (RV_tmp rfl) .nil) ⟨rfl, rfl⟩ (Ent.refl _)
theorem rwnew_ok (E : World) (z : Int) : Does Try.prog E 10 [.int .i64 z] [] fun v L => v = refW (winSize z) SV.nil ∧ L = [] := by
  refine Does.of Try.func10 rfl Try.ntmps10 rfl rfl fun F => ?_
  refine J.norm ?_
  repeat first
    | refine J_seq ?_
    | refine seqQ_normal ?_
    | refine J_condT rfl ?_
    | refine J_condF rfl ?_
    | refine J_block ?_
    | refine blockQ_normal ?_
    | refine J_exit ?_
    | refine seqQ_exit ?_
    | refine blockQ_hit ?_
    | refine blockQ_miss rfl ?_
    | refine J_skip ?_
    | refine J_ret ?_
    | refine seqQ_ret ?_
    | refine blockQ_ret ?_
    | refine loopQ_exit ?_
    | refine loopQ_ret ?_
    | refine J_label ?_
    | refine J_scope ?_
    | refine scopeQ_normal ?_
    | refine scopeQ_exit ?_
    | refine scopeQ_ret ?_
  refine J_region ?_
  refine L_o rfl rfl rfl (O_alloc fun b2 => ?_)
  refine JL_nil ?_
  repeat first
    | refine J_seq ?_
    | refine seqQ_normal ?_
    | refine J_condT rfl ?_
    | refine J_condF rfl ?_
    | refine J_block ?_
    | refine blockQ_normal ?_
    | refine J_exit ?_
    | refine seqQ_exit ?_
    | refine blockQ_hit ?_
    | refine blockQ_miss rfl ?_
    | refine J_skip ?_
    | refine J_ret ?_
    | refine seqQ_ret ?_
    | refine blockQ_ret ?_
    | refine loopQ_exit ?_
    | refine loopQ_ret ?_
    | refine J_label ?_
    | refine J_scope ?_
    | refine scopeQ_normal ?_
    | refine scopeQ_exit ?_
    | refine scopeQ_ret ?_
  repeat first
    | refine J_seq ?_
    | refine seqQ_normal ?_
    | refine J_condT rfl ?_
    | refine J_condF rfl ?_
    | refine J_block ?_
    | refine blockQ_normal ?_
    | refine J_exit ?_
    | refine seqQ_exit ?_
    | refine blockQ_hit ?_
    | refine blockQ_miss rfl ?_
    | refine J_skip ?_
    | refine J_ret ?_
    | refine seqQ_ret ?_
    | refine blockQ_ret ?_
    | refine loopQ_exit ?_
    | refine loopQ_ret ?_
    | refine J_label ?_
    | refine J_scope ?_
    | refine scopeQ_normal ?_
    | refine scopeQ_exit ?_
    | refine scopeQ_ret ?_
  refine J_region ?_
  refine L_q (Q_move rfl) rfl rfl rfl ?_
  refine L_o rfl rfl rfl (O_call [] [0,1] (rwsize_ok E z) rfl rfl ?_)
  rintro _ _ ⟨rfl, rfl⟩
  refine JL.norm ?_
  refine L_q (Q_build rfl) rfl rfl rfl ?_
  first
    | refine L_s rfl rfl (O_stW 0 rfl rfl rfl rfl ?_)
    | refine L_s rfl rfl (O_stW 1 rfl rfl rfl rfl ?_)
    | refine L_s rfl rfl (O_stW 2 rfl rfl rfl rfl ?_)
    | refine L_s rfl rfl (O_stW 3 rfl rfl rfl rfl ?_)
    | refine L_s rfl rfl (O_stW 4 rfl rfl rfl rfl ?_)
    | refine L_s rfl rfl (O_stW 5 rfl rfl rfl rfl ?_)
    | refine L_s rfl rfl (O_stW 6 rfl rfl rfl rfl ?_)
    | refine L_s rfl rfl (O_stW 7 rfl rfl rfl rfl ?_)
    | refine L_s rfl rfl (O_stW 8 rfl rfl rfl rfl ?_)
    | refine L_s rfl rfl (O_stW 9 rfl rfl rfl rfl ?_)
  refine JL.norm ?_
  refine JL_nil ?_
  repeat first
    | refine J_seq ?_
    | refine seqQ_normal ?_
    | refine J_condT rfl ?_
    | refine J_condF rfl ?_
    | refine J_block ?_
    | refine blockQ_normal ?_
    | refine J_exit ?_
    | refine seqQ_exit ?_
    | refine blockQ_hit ?_
    | refine blockQ_miss rfl ?_
    | refine J_skip ?_
    | refine J_ret ?_
    | refine seqQ_ret ?_
    | refine blockQ_ret ?_
    | refine loopQ_exit ?_
    | refine loopQ_ret ?_
    | refine J_label ?_
    | refine J_scope ?_
    | refine scopeQ_normal ?_
    | refine scopeQ_exit ?_
    | refine scopeQ_ret ?_
  exact retQ_ret _ [] (.cons (RV_cell 0 rfl rfl rfl rfl) .nil) ⟨rfl, rfl⟩ (Ent.re [1] rfl)
theorem rwhas_ok (E : World) (size : Nat) (X : SV) (L : List Int) (z : Int) (hl : L.length ≤ 1000000) : Does Try.prog E 16 [refW size X, .int .i64 z] [slc tZ true X L] fun v Lc => v = .bool (decide (z ∈ L)) ∧ Lc = [slc tZ true X L] := by
  refine Does.of Try.func16 rfl Try.ntmps16 rfl rfl fun F => ?_
  refine J.norm ?_
  repeat first
    | refine J_seq ?_
    | refine seqQ_normal ?_
    | refine J_condT rfl ?_
    | refine J_condF rfl ?_
    | refine J_block ?_
    | refine blockQ_normal ?_
    | refine J_exit ?_
    | refine seqQ_exit ?_
    | refine blockQ_hit ?_
    | refine blockQ_miss rfl ?_
    | refine J_skip ?_
    | refine J_ret ?_
    | refine seqQ_ret ?_
    | refine blockQ_ret ?_
    | refine loopQ_exit ?_
    | refine loopQ_ret ?_
    | refine J_label ?_
    | refine J_scope ?_
    | refine scopeQ_normal ?_
    | refine scopeQ_exit ?_
    | refine scopeQ_ret ?_
  refine J_region ?_
  refine L_o rfl rfl rfl (O_box rfl fun b2 => ?_)
  refine L_q (Q_assign rfl) rfl rfl rfl ?_
  refine JL_nil ?_
  repeat first
    | refine J_seq ?_
    | refine seqQ_normal ?_
    | refine J_condT rfl ?_
    | refine J_condF rfl ?_
    | refine J_block ?_
    | refine blockQ_normal ?_
    | refine J_exit ?_
    | refine seqQ_exit ?_
    | refine blockQ_hit ?_
    | refine blockQ_miss rfl ?_
    | refine J_skip ?_
    | refine J_ret ?_
    | refine seqQ_ret ?_
    | refine blockQ_ret ?_
    | refine loopQ_exit ?_
    | refine loopQ_ret ?_
    | refine J_label ?_
    | refine J_scope ?_
    | refine scopeQ_normal ?_
    | refine scopeQ_exit ?_
    | refine scopeQ_ret ?_
  repeat first
    | refine J_seq ?_
    | refine seqQ_normal ?_
    | refine J_condT rfl ?_
    | refine J_condF rfl ?_
    | refine J_block ?_
    | refine blockQ_normal ?_
    | refine J_exit ?_
    | refine seqQ_exit ?_
    | refine blockQ_hit ?_
    | refine blockQ_miss rfl ?_
    | refine J_skip ?_
    | refine J_ret ?_
    | refine seqQ_ret ?_
    | refine blockQ_ret ?_
    | refine loopQ_exit ?_
    | refine loopQ_ret ?_
    | refine J_label ?_
    | refine J_scope ?_
    | refine scopeQ_normal ?_
    | refine scopeQ_exit ?_
    | refine scopeQ_ret ?_
  refine J_region ?_
  refine L_q (Q_assign rfl) rfl rfl rfl ?_
  refine JL_nil ?_
  repeat first
    | refine J_seq ?_
    | refine seqQ_normal ?_
    | refine J_condT rfl ?_
    | refine J_condF rfl ?_
    | refine J_block ?_
    | refine blockQ_normal ?_
    | refine J_exit ?_
    | refine seqQ_exit ?_
    | refine blockQ_hit ?_
    | refine blockQ_miss rfl ?_
    | refine J_skip ?_
    | refine J_ret ?_
    | refine seqQ_ret ?_
    | refine blockQ_ret ?_
    | refine loopQ_exit ?_
    | refine loopQ_ret ?_
    | refine J_label ?_
    | refine J_scope ?_
    | refine scopeQ_normal ?_
    | refine scopeQ_exit ?_
    | refine scopeQ_ret ?_
  refine J_loop (fun i : Nat => i ≤ L.length ∧ z ∉ L.take i) (fun i => [(1, .int .i64 z), (2, .pointer (some ⟨b2, 0, none⟩)), (5, .int .i64 (i : Int))])
    (fun _ => [cel b2 [.int .i64 (size : Int), X.v] 27, slc tZ true X L, F]) (fun i => L.length - i) 0 ⟨by omega, by simp⟩ ⟨rfl, rfl, rfl, trivial⟩ (Ent.refl _) ?_
  rintro k ⟨hk, he⟩
  repeat first
    | refine J_seq ?_
    | refine seqQ_normal ?_
    | refine J_condT rfl ?_
    | refine J_condF rfl ?_
    | refine J_block ?_
    | refine blockQ_normal ?_
    | refine J_exit ?_
    | refine seqQ_exit ?_
    | refine blockQ_hit ?_
    | refine blockQ_miss rfl ?_
    | refine J_skip ?_
    | refine J_ret ?_
    | refine seqQ_ret ?_
    | refine blockQ_ret ?_
    | refine loopQ_exit ?_
    | refine loopQ_ret ?_
    | refine J_label ?_
    | refine J_scope ?_
    | refine scopeQ_normal ?_
    | refine scopeQ_exit ?_
    | refine scopeQ_ret ?_
  refine J_region ?_
  refine L_q (Q_move rfl) rfl rfl rfl ?_
  first
    | refine L_q (Q_fa0 rfl) rfl rfl rfl ?_
    | refine L_q (Q_fa rfl rfl) rfl rfl rfl ?_
    | refine L_q (Q_pfa rfl) rfl rfl rfl ?_
  first
    | refine L_q (Q_ld 0 rfl rfl rfl rfl) rfl rfl rfl ?_
    | refine L_q (Q_ld 1 rfl rfl rfl rfl) rfl rfl rfl ?_
    | refine L_q (Q_ld 2 rfl rfl rfl rfl) rfl rfl rfl ?_
    | refine L_q (Q_ld 3 rfl rfl rfl rfl) rfl rfl rfl ?_
    | refine L_q (Q_ld 4 rfl rfl rfl rfl) rfl rfl rfl ?_
    | refine L_q (Q_ld 5 rfl rfl rfl rfl) rfl rfl rfl ?_
    | refine L_q (Q_ld 6 rfl rfl rfl rfl) rfl rfl rfl ?_
    | refine L_q (Q_ld 7 rfl rfl rfl rfl) rfl rfl rfl ?_
    | refine L_q (Q_ld 8 rfl rfl rfl rfl) rfl rfl rfl ?_
    | refine L_q (Q_ld 9 rfl rfl rfl rfl) rfl rfl rfl ?_
  first
    | refine L_q (Q_lenAt 0 rfl rfl) rfl rfl rfl ?_
    | refine L_q (Q_lenAt 1 rfl rfl) rfl rfl rfl ?_
    | refine L_q (Q_lenAt 2 rfl rfl) rfl rfl rfl ?_
    | refine L_q (Q_lenAt 3 rfl rfl) rfl rfl rfl ?_
    | refine L_q (Q_lenAt 4 rfl rfl) rfl rfl rfl ?_
    | refine L_q (Q_lenAt 5 rfl rfl) rfl rfl rfl ?_
    | refine L_q (Q_lenAt 6 rfl rfl) rfl rfl rfl ?_
    | refine L_q (Q_lenAt 7 rfl rfl) rfl rfl rfl ?_
    | refine L_q (Q_lenAt 8 rfl rfl) rfl rfl rfl ?_
    | refine L_q (Q_lenAt 9 rfl rfl) rfl rfl rfl ?_
  refine L_q (Q_lss rfl rfl) rfl rfl rfl ?_
  refine JL_nil ?_
  repeat first
    | refine J_seq ?_
    | refine seqQ_normal ?_
    | refine J_condT rfl ?_
    | refine J_condF rfl ?_
    | refine J_block ?_
    | refine blockQ_normal ?_
    | refine J_exit ?_
    | refine seqQ_exit ?_
    | refine blockQ_hit ?_
    | refine blockQ_miss rfl ?_
    | refine J_skip ?_
    | refine J_ret ?_
    | refine seqQ_ret ?_
    | refine blockQ_ret ?_
    | refine loopQ_exit ?_
    | refine loopQ_ret ?_
    | refine J_label ?_
    | refine J_scope ?_
    | refine scopeQ_normal ?_
    | refine scopeQ_exit ?_
    | refine scopeQ_ret ?_
  refine J_condD rfl (fun h2 => ?_) (fun h2 => ?_)
  · have hlt : k < L.length := by omega
    by_cases hd : L[k] = z
    · rw [show decide (z ∈ L) = true from decide_eq_true (by rw [← hd]; exact List.getElem_mem hlt)]
      repeat first
        | refine J_seq ?_
        | refine seqQ_normal ?_
        | refine J_condT rfl ?_
        | refine J_condF rfl ?_
        | refine J_block ?_
        | refine blockQ_normal ?_
        | refine J_exit ?_
        | refine seqQ_exit ?_
        | refine blockQ_hit ?_
        | refine blockQ_miss rfl ?_
        | refine J_skip ?_
        | refine J_ret ?_
        | refine seqQ_ret ?_
        | refine blockQ_ret ?_
        | refine loopQ_exit ?_
        | refine loopQ_ret ?_
        | refine J_label ?_
        | refine J_scope ?_
        | refine scopeQ_normal ?_
        | refine scopeQ_exit ?_
        | refine scopeQ_ret ?_
      refine J_region ?_
      first
        | refine L_q (Q_fa0 rfl) rfl rfl rfl ?_
        | refine L_q (Q_fa rfl rfl) rfl rfl rfl ?_
        | refine L_q (Q_pfa rfl) rfl rfl rfl ?_
      first
        | refine L_q (Q_ld 0 rfl rfl rfl rfl) rfl rfl rfl ?_
        | refine L_q (Q_ld 1 rfl rfl rfl rfl) rfl rfl rfl ?_
        | refine L_q (Q_ld 2 rfl rfl rfl rfl) rfl rfl rfl ?_
        | refine L_q (Q_ld 3 rfl rfl rfl rfl) rfl rfl rfl ?_
        | refine L_q (Q_ld 4 rfl rfl rfl rfl) rfl rfl rfl ?_
        | refine L_q (Q_ld 5 rfl rfl rfl rfl) rfl rfl rfl ?_
        | refine L_q (Q_ld 6 rfl rfl rfl rfl) rfl rfl rfl ?_
        | refine L_q (Q_ld 7 rfl rfl rfl rfl) rfl rfl rfl ?_
        | refine L_q (Q_ld 8 rfl rfl rfl rfl) rfl rfl rfl ?_
        | refine L_q (Q_ld 9 rfl rfl rfl rfl) rfl rfl rfl ?_
      refine L_q (Q_move rfl) rfl rfl rfl ?_
      refine L_q (Q_ixAt 1 k rfl rfl rfl rfl hlt rfl) rfl rfl rfl ?_
      refine L_q (Q_ldEAt 1 k 0 (v := .int .i64 L[k]) rfl rfl rfl rfl hlt (by decide) rfl) rfl rfl rfl ?_
      refine L_q (Q_move rfl) rfl rfl rfl ?_
      refine L_q ((Q_eql rfl rfl).as (v' := .bool true) (congrArg Value.bool (decide_eq_true hd))) rfl rfl rfl ?_
      refine JL_nil ?_
      repeat first
        | refine J_seq ?_
        | refine seqQ_normal ?_
        | refine J_condT rfl ?_
        | refine J_condF rfl ?_
        | refine J_block ?_
        | refine blockQ_normal ?_
        | refine J_exit ?_
        | refine seqQ_exit ?_
        | refine blockQ_hit ?_
        | refine blockQ_miss rfl ?_
        | refine J_skip ?_
        | refine J_ret ?_
        | refine seqQ_ret ?_
        | refine blockQ_ret ?_
        | refine loopQ_exit ?_
        | refine loopQ_ret ?_
        | refine J_label ?_
        | refine J_scope ?_
        | refine scopeQ_normal ?_
        | refine scopeQ_exit ?_
        | refine scopeQ_ret ?_
      repeat first
        | refine J_seq ?_
        | refine seqQ_normal ?_
        | refine J_condT rfl ?_
        | refine J_condF rfl ?_
        | refine J_block ?_
        | refine blockQ_normal ?_
        | refine J_exit ?_
        | refine seqQ_exit ?_
        | refine blockQ_hit ?_
        | refine blockQ_miss rfl ?_
        | refine J_skip ?_
        | refine J_ret ?_
        | refine seqQ_ret ?_
        | refine blockQ_ret ?_
        | refine loopQ_exit ?_
        | refine loopQ_ret ?_
        | refine J_label ?_
        | refine J_scope ?_
        | refine scopeQ_normal ?_
        | refine scopeQ_exit ?_
        | refine scopeQ_ret ?_
      refine J_region ?_
      refine L_q (Q_assign rfl) rfl rfl rfl ?_
      refine JL_nil ?_
      repeat first
        | refine J_seq ?_
        | refine seqQ_normal ?_
        | refine J_condT rfl ?_
        | refine J_condF rfl ?_
        | refine J_block ?_
        | refine blockQ_normal ?_
        | refine J_exit ?_
        | refine seqQ_exit ?_
        | refine blockQ_hit ?_
        | refine blockQ_miss rfl ?_
        | refine J_skip ?_
        | refine J_ret ?_
        | refine seqQ_ret ?_
        | refine blockQ_ret ?_
        | refine loopQ_exit ?_
        | refine loopQ_ret ?_
        | refine J_label ?_
        | refine J_scope ?_
        | refine scopeQ_normal ?_
        | refine scopeQ_exit ?_
        | refine scopeQ_ret ?_
      exact retQ_ret _ [slc tZ true X L] (.cons (RV_tmp rfl) .nil) ⟨rfl, rfl⟩ (Ent.re [1, 2] rfl)
    · repeat first
        | refine J_seq ?_
        | refine seqQ_normal ?_
        | refine J_condT rfl ?_
        | refine J_condF rfl ?_
        | refine J_block ?_
        | refine blockQ_normal ?_
        | refine J_exit ?_
        | refine seqQ_exit ?_
        | refine blockQ_hit ?_
        | refine blockQ_miss rfl ?_
        | refine J_skip ?_
        | refine J_ret ?_
        | refine seqQ_ret ?_
        | refine blockQ_ret ?_
        | refine loopQ_exit ?_
        | refine loopQ_ret ?_
        | refine J_label ?_
        | refine J_scope ?_
        | refine scopeQ_normal ?_
        | refine scopeQ_exit ?_
        | refine scopeQ_ret ?_
      refine J_region ?_
      first
        | refine L_q (Q_fa0 rfl) rfl rfl rfl ?_
        | refine L_q (Q_fa rfl rfl) rfl rfl rfl ?_
        | refine L_q (Q_pfa rfl) rfl rfl rfl ?_
      first
        | refine L_q (Q_ld 0 rfl rfl rfl rfl) rfl rfl rfl ?_
        | refine L_q (Q_ld 1 rfl rfl rfl rfl) rfl rfl rfl ?_
        | refine L_q (Q_ld 2 rfl rfl rfl rfl) rfl rfl rfl ?_
        | refine L_q (Q_ld 3 rfl rfl rfl rfl) rfl rfl rfl ?_
        | refine L_q (Q_ld 4 rfl rfl rfl rfl) rfl rfl rfl ?_
        | refine L_q (Q_ld 5 rfl rfl rfl rfl) rfl rfl rfl ?_
        | refine L_q (Q_ld 6 rfl rfl rfl rfl) rfl rfl rfl ?_
        | refine L_q (Q_ld 7 rfl rfl rfl rfl) rfl rfl rfl ?_
        | refine L_q (Q_ld 8 rfl rfl rfl rfl) rfl rfl rfl ?_
        | refine L_q (Q_ld 9 rfl rfl rfl rfl) rfl rfl rfl ?_
      refine L_q (Q_move rfl) rfl rfl rfl ?_
      refine L_q (Q_ixAt 1 k rfl rfl rfl rfl hlt rfl) rfl rfl rfl ?_
      refine L_q (Q_ldEAt 1 k 0 (v := .int .i64 L[k]) rfl rfl rfl rfl hlt (by decide) rfl) rfl rfl rfl ?_
      refine L_q (Q_move rfl) rfl rfl rfl ?_
      refine L_q ((Q_eql rfl rfl).as (v' := .bool false) (congrArg Value.bool (decide_eq_false hd))) rfl rfl rfl ?_
      refine JL_nil ?_
      repeat first
        | refine J_seq ?_
        | refine seqQ_normal ?_
        | refine J_condT rfl ?_
        | refine J_condF rfl ?_
        | refine J_block ?_
        | refine blockQ_normal ?_
        | refine J_exit ?_
        | refine seqQ_exit ?_
        | refine blockQ_hit ?_
        | refine blockQ_miss rfl ?_
        | refine J_skip ?_
        | refine J_ret ?_
        | refine seqQ_ret ?_
        | refine blockQ_ret ?_
        | refine loopQ_exit ?_
        | refine loopQ_ret ?_
        | refine J_label ?_
        | refine J_scope ?_
        | refine scopeQ_normal ?_
        | refine scopeQ_exit ?_
        | refine scopeQ_ret ?_
      repeat first
        | refine J_seq ?_
        | refine seqQ_normal ?_
        | refine J_condT rfl ?_
        | refine J_condF rfl ?_
        | refine J_block ?_
        | refine blockQ_normal ?_
        | refine J_exit ?_
        | refine seqQ_exit ?_
        | refine blockQ_hit ?_
        | refine blockQ_miss rfl ?_
        | refine J_skip ?_
        | refine J_ret ?_
        | refine seqQ_ret ?_
        | refine blockQ_ret ?_
        | refine loopQ_exit ?_
        | refine loopQ_ret ?_
        | refine J_label ?_
        | refine J_scope ?_
        | refine scopeQ_normal ?_
        | refine scopeQ_exit ?_
        | refine scopeQ_ret ?_
      refine J_region ?_
      refine L_q (Q_move rfl) rfl rfl rfl ?_
      refine L_q (Q_add rfl rfl (by first | exact IntWalk.i64_in _ (by omega) | exact IntWalk.u8_in _ (by omega) | exact IntWalk.u32_in _ (by omega) | exact IntWalk.u64_in _ (by omega) | rfl)) rfl rfl rfl ?_
      refine L_q (Q_assign rfl) rfl rfl rfl ?_
      refine JL_nil ?_
      repeat first
        | refine J_seq ?_
        | refine seqQ_normal ?_
        | refine J_condT rfl ?_
        | refine J_condF rfl ?_
        | refine J_block ?_
        | refine blockQ_normal ?_
        | refine J_exit ?_
        | refine seqQ_exit ?_
        | refine blockQ_hit ?_
        | refine blockQ_miss rfl ?_
        | refine J_skip ?_
        | refine J_ret ?_
        | refine seqQ_ret ?_
        | refine blockQ_ret ?_
        | refine loopQ_exit ?_
        | refine loopQ_ret ?_
        | refine J_label ?_
        | refine J_scope ?_
        | refine scopeQ_normal ?_
        | refine scopeQ_exit ?_
        | refine scopeQ_ret ?_
      refine loopQ_normal (k + 1) ⟨hlt, ?_⟩ (by omega) ⟨rfl, rfl, rfl, trivial⟩ (Ent.refl _)
      rw [List.take_succ_eq_append_getElem hlt, List.mem_append, List.mem_singleton]
      rintro (h | h)
      · exact he h
      · exact hd h.symm
  · obtain rfl : k = L.length := by omega
    rw [List.take_length] at he
    rw [decide_eq_false he]
    repeat first
      | refine J_seq ?_
      | refine seqQ_normal ?_
      | refine J_condT rfl ?_
      | refine J_condF rfl ?_
      | refine J_block ?_
      | refine blockQ_normal ?_
      | refine J_exit ?_
      | refine seqQ_exit ?_
      | refine blockQ_hit ?_
      | refine blockQ_miss rfl ?_
      | refine J_skip ?_
      | refine J_ret ?_
      | refine seqQ_ret ?_
      | refine blockQ_ret ?_
      | refine loopQ_exit ?_
      | refine loopQ_ret ?_
      | refine J_label ?_
      | refine J_scope ?_
      | refine scopeQ_normal ?_
      | refine scopeQ_exit ?_
      | refine scopeQ_ret ?_
    refine J_region ?_
    refine L_q (Q_assign rfl) rfl rfl rfl ?_
    refine JL_nil ?_
    repeat first
      | refine J_seq ?_
      | refine seqQ_normal ?_
      | refine J_condT rfl ?_
      | refine J_condF rfl ?_
      | refine J_block ?_
      | refine blockQ_normal ?_
      | refine J_exit ?_
      | refine seqQ_exit ?_
      | refine blockQ_hit ?_
      | refine blockQ_miss rfl ?_
      | refine J_skip ?_
      | refine J_ret ?_
      | refine seqQ_ret ?_
      | refine blockQ_ret ?_
      | refine loopQ_exit ?_
      | refine loopQ_ret ?_
      | refine J_label ?_
      | refine J_scope ?_
      | refine scopeQ_normal ?_
      | refine scopeQ_exit ?_
      | refine scopeQ_ret ?_
    exact retQ_ret _ [slc tZ true X L] (.cons (RV_tmp rfl) .nil) ⟨rfl, rfl⟩ (Ent.re [1, 2] rfl)
theorem rwbase_ok (E : World) (size : Nat) (X : SV) (L : List Int) (hl : L.length ≤ 1000000) : Does Try.prog E 14 [refW size X] [slc tZ true X L] fun v Lc => v = .int .i64 (baseOf L : Int) ∧ Lc = [slc tZ true X L] := by
  refine Does.of Try.func14 rfl Try.ntmps14 rfl rfl fun F => ?_
  refine J.norm ?_
  repeat first
    | refine J_seq ?_
    | refine seqQ_normal ?_
    | refine J_condT rfl ?_
    | refine J_condF rfl ?_
    | refine J_block ?_
    | refine blockQ_normal ?_
    | refine J_exit ?_
    | refine seqQ_exit ?_
    | refine blockQ_hit ?_
    | refine blockQ_miss rfl ?_
    | refine J_skip ?_
    | refine J_ret ?_
    | refine seqQ_ret ?_
    | refine blockQ_ret ?_
    | refine loopQ_exit ?_
    | refine loopQ_ret ?_
    | refine J_label ?_
    | refine J_scope ?_
    | refine scopeQ_normal ?_
    | refine scopeQ_exit ?_
    | refine scopeQ_ret ?_
  refine J_region ?_
  refine L_o rfl rfl rfl (O_box rfl fun b1 => ?_)
  refine L_q (Q_assign rfl) rfl rfl rfl ?_
  refine JL_nil ?_
  repeat first
    | refine J_seq ?_
    | refine seqQ_normal ?_
    | refine J_condT rfl ?_
    | refine J_condF rfl ?_
    | refine J_block ?_
    | refine blockQ_normal ?_
    | refine J_exit ?_
    | refine seqQ_exit ?_
    | refine blockQ_hit ?_
    | refine blockQ_miss rfl ?_
    | refine J_skip ?_
    | refine J_ret ?_
    | refine seqQ_ret ?_
    | refine blockQ_ret ?_
    | refine loopQ_exit ?_
    | refine loopQ_ret ?_
    | refine J_label ?_
    | refine J_scope ?_
    | refine scopeQ_normal ?_
    | refine scopeQ_exit ?_
    | refine scopeQ_ret ?_
  repeat first
    | refine J_seq ?_
    | refine seqQ_normal ?_
    | refine J_condT rfl ?_
    | refine J_condF rfl ?_
    | refine J_block ?_
    | refine blockQ_normal ?_
    | refine J_exit ?_
    | refine seqQ_exit ?_
    | refine blockQ_hit ?_
    | refine blockQ_miss rfl ?_
    | refine J_skip ?_
    | refine J_ret ?_
    | refine seqQ_ret ?_
    | refine blockQ_ret ?_
    | refine loopQ_exit ?_
    | refine loopQ_ret ?_
    | refine J_label ?_
    | refine J_scope ?_
    | refine scopeQ_normal ?_
    | refine scopeQ_exit ?_
    | refine scopeQ_ret ?_
  refine J_region ?_
  refine L_q (Q_assign rfl) rfl rfl rfl ?_
  refine JL_nil ?_
  repeat first
    | refine J_seq ?_
    | refine seqQ_normal ?_
    | refine J_condT rfl ?_
    | refine J_condF rfl ?_
    | refine J_block ?_
    | refine blockQ_normal ?_
    | refine J_exit ?_
    | refine seqQ_exit ?_
    | refine blockQ_hit ?_
    | refine blockQ_miss rfl ?_
    | refine J_skip ?_
    | refine J_ret ?_
    | refine seqQ_ret ?_
    | refine blockQ_ret ?_
    | refine loopQ_exit ?_
    | refine loopQ_ret ?_
    | refine J_label ?_
    | refine J_scope ?_
    | refine scopeQ_normal ?_
    | refine scopeQ_exit ?_
    | refine scopeQ_ret ?_
  refine J_loop (fun i : Nat => ∀ k : Nat, k < i → (k : Int) ∈ L) (fun i => [(1, .pointer (some ⟨b1, 0, none⟩)), (3, .int .i64 (i : Int))])
    (fun _ => [cel b1 [.int .i64 (size : Int), X.v] 27, slc tZ true X L, F]) (fun i => L.length + 1 - i) 0 (by simp) ⟨rfl, rfl, trivial⟩ (Ent.refl _) ?_
  intro b hb
  have hbl := pigeon L b hb
  have hh := rwhas_ok E size X L (b : Int) hl
  by_cases h4 : (b : Int) ∈ L
  · rw [decide_eq_true h4] at hh
    repeat first
      | refine J_seq ?_
      | refine seqQ_normal ?_
      | refine J_condT rfl ?_
      | refine J_condF rfl ?_
      | refine J_block ?_
      | refine blockQ_normal ?_
      | refine J_exit ?_
      | refine seqQ_exit ?_
      | refine blockQ_hit ?_
      | refine blockQ_miss rfl ?_
      | refine J_skip ?_
      | refine J_ret ?_
      | refine seqQ_ret ?_
      | refine blockQ_ret ?_
      | refine loopQ_exit ?_
      | refine loopQ_ret ?_
      | refine J_label ?_
      | refine J_scope ?_
      | refine scopeQ_normal ?_
      | refine scopeQ_exit ?_
      | refine scopeQ_ret ?_
    refine J_region ?_
    first
      | refine L_q (Q_ldA 0 rfl rfl rfl) rfl rfl rfl ?_
      | refine L_q (Q_ldA 1 rfl rfl rfl) rfl rfl rfl ?_
      | refine L_q (Q_ldA 2 rfl rfl rfl) rfl rfl rfl ?_
      | refine L_q (Q_ldA 3 rfl rfl rfl) rfl rfl rfl ?_
      | refine L_q (Q_ldA 4 rfl rfl rfl) rfl rfl rfl ?_
      | refine L_q (Q_ldA 5 rfl rfl rfl) rfl rfl rfl ?_
      | refine L_q (Q_ldA 6 rfl rfl rfl) rfl rfl rfl ?_
      | refine L_q (Q_ldA 7 rfl rfl rfl) rfl rfl rfl ?_
      | refine L_q (Q_ldA 8 rfl rfl rfl) rfl rfl rfl ?_
      | refine L_q (Q_ldA 9 rfl rfl rfl) rfl rfl rfl ?_
    refine L_q (Q_move rfl) rfl rfl rfl ?_
    refine L_o rfl rfl rfl (O_call [1] [0,2] hh rfl rfl ?_)
    rintro _ _ ⟨rfl, rfl⟩
    refine JL.norm ?_
    refine JL_nil ?_
    repeat first
      | refine J_seq ?_
      | refine seqQ_normal ?_
      | refine J_condT rfl ?_
      | refine J_condF rfl ?_
      | refine J_block ?_
      | refine blockQ_normal ?_
      | refine J_exit ?_
      | refine seqQ_exit ?_
      | refine blockQ_hit ?_
      | refine blockQ_miss rfl ?_
      | refine J_skip ?_
      | refine J_ret ?_
      | refine seqQ_ret ?_
      | refine blockQ_ret ?_
      | refine loopQ_exit ?_
      | refine loopQ_ret ?_
      | refine J_label ?_
      | refine J_scope ?_
      | refine scopeQ_normal ?_
      | refine scopeQ_exit ?_
      | refine scopeQ_ret ?_
    repeat first
      | refine J_seq ?_
      | refine seqQ_normal ?_
      | refine J_condT rfl ?_
      | refine J_condF rfl ?_
      | refine J_block ?_
      | refine blockQ_normal ?_
      | refine J_exit ?_
      | refine seqQ_exit ?_
      | refine blockQ_hit ?_
      | refine blockQ_miss rfl ?_
      | refine J_skip ?_
      | refine J_ret ?_
      | refine seqQ_ret ?_
      | refine blockQ_ret ?_
      | refine loopQ_exit ?_
      | refine loopQ_ret ?_
      | refine J_label ?_
      | refine J_scope ?_
      | refine scopeQ_normal ?_
      | refine scopeQ_exit ?_
      | refine scopeQ_ret ?_
    refine J_region ?_
    refine L_q (Q_move rfl) rfl rfl rfl ?_
    refine L_q (Q_add rfl rfl (by first | exact IntWalk.i64_in _ (by omega) | exact IntWalk.u8_in _ (by omega) | exact IntWalk.u32_in _ (by omega) | exact IntWalk.u64_in _ (by omega) | rfl)) rfl rfl rfl ?_
    refine L_q (Q_assign rfl) rfl rfl rfl ?_
    refine JL_nil ?_
    repeat first
      | refine J_seq ?_
      | refine seqQ_normal ?_
      | refine J_condT rfl ?_
      | refine J_condF rfl ?_
      | refine J_block ?_
      | refine blockQ_normal ?_
      | refine J_exit ?_
      | refine seqQ_exit ?_
      | refine blockQ_hit ?_
      | refine blockQ_miss rfl ?_
      | refine J_skip ?_
      | refine J_ret ?_
      | refine seqQ_ret ?_
      | refine blockQ_ret ?_
      | refine loopQ_exit ?_
      | refine loopQ_ret ?_
      | refine J_label ?_
      | refine J_scope ?_
      | refine scopeQ_normal ?_
      | refine scopeQ_exit ?_
      | refine scopeQ_ret ?_
    refine loopQ_normal (b + 1) ?_ (by omega) ⟨rfl, rfl, trivial⟩ (Ent.re [1, 0, 2] rfl)
    intro k hk
    by_cases e : k = b
    · rw [e]; exact h4
    · exact hb k (by omega)
  · rw [decide_eq_false h4] at hh
    have hbb := baseOf_eq L b hb h4
    rw [← hbb]
    repeat first
      | refine J_seq ?_
      | refine seqQ_normal ?_
      | refine J_condT rfl ?_
      | refine J_condF rfl ?_
      | refine J_block ?_
      | refine blockQ_normal ?_
      | refine J_exit ?_
      | refine seqQ_exit ?_
      | refine blockQ_hit ?_
      | refine blockQ_miss rfl ?_
      | refine J_skip ?_
      | refine J_ret ?_
      | refine seqQ_ret ?_
      | refine blockQ_ret ?_
      | refine loopQ_exit ?_
      | refine loopQ_ret ?_
      | refine J_label ?_
      | refine J_scope ?_
      | refine scopeQ_normal ?_
      | refine scopeQ_exit ?_
      | refine scopeQ_ret ?_
    refine J_region ?_
    first
      | refine L_q (Q_ldA 0 rfl rfl rfl) rfl rfl rfl ?_
      | refine L_q (Q_ldA 1 rfl rfl rfl) rfl rfl rfl ?_
      | refine L_q (Q_ldA 2 rfl rfl rfl) rfl rfl rfl ?_
      | refine L_q (Q_ldA 3 rfl rfl rfl) rfl rfl rfl ?_
      | refine L_q (Q_ldA 4 rfl rfl rfl) rfl rfl rfl ?_
      | refine L_q (Q_ldA 5 rfl rfl rfl) rfl rfl rfl ?_
      | refine L_q (Q_ldA 6 rfl rfl rfl) rfl rfl rfl ?_
      | refine L_q (Q_ldA 7 rfl rfl rfl) rfl rfl rfl ?_
      | refine L_q (Q_ldA 8 rfl rfl rfl) rfl rfl rfl ?_
      | refine L_q (Q_ldA 9 rfl rfl rfl) rfl rfl rfl ?_
    refine L_q (Q_move rfl) rfl rfl rfl ?_
    refine L_o rfl rfl rfl (O_call [1] [0,2] hh rfl rfl ?_)
    rintro _ _ ⟨rfl, rfl⟩
    refine JL.norm ?_
    refine JL_nil ?_
    repeat first
      | refine J_seq ?_
      | refine seqQ_normal ?_
      | refine J_condT rfl ?_
      | refine J_condF rfl ?_
      | refine J_block ?_
      | refine blockQ_normal ?_
      | refine J_exit ?_
      | refine seqQ_exit ?_
      | refine blockQ_hit ?_
      | refine blockQ_miss rfl ?_
      | refine J_skip ?_
      | refine J_ret ?_
      | refine seqQ_ret ?_
      | refine blockQ_ret ?_
      | refine loopQ_exit ?_
      | refine loopQ_ret ?_
      | refine J_label ?_
      | refine J_scope ?_
      | refine scopeQ_normal ?_
      | refine scopeQ_exit ?_
      | refine scopeQ_ret ?_
    repeat first
      | refine J_seq ?_
      | refine seqQ_normal ?_
      | refine J_condT rfl ?_
      | refine J_condF rfl ?_
      | refine J_block ?_
      | refine blockQ_normal ?_
      | refine J_exit ?_
      | refine seqQ_exit ?_
      | refine blockQ_hit ?_
      | refine blockQ_miss rfl ?_
      | refine J_skip ?_
      | refine J_ret ?_
      | refine seqQ_ret ?_
      | refine blockQ_ret ?_
      | refine loopQ_exit ?_
      | refine loopQ_ret ?_
      | refine J_label ?_
      | refine J_scope ?_
      | refine scopeQ_normal ?_
      | refine scopeQ_exit ?_
      | refine scopeQ_ret ?_
    refine J_region ?_
    refine L_q (Q_move rfl) rfl rfl rfl ?_
    refine L_q (Q_assign rfl) rfl rfl rfl ?_
    refine JL_nil ?_
    repeat first
      | refine J_seq ?_
      | refine seqQ_normal ?_
      | refine J_condT rfl ?_
      | refine J_condF rfl ?_
      | refine J_block ?_
      | refine blockQ_normal ?_
      | refine J_exit ?_
      | refine seqQ_exit ?_
      | refine blockQ_hit ?_
      | refine blockQ_miss rfl ?_
      | refine J_skip ?_
      | refine J_ret ?_
      | refine seqQ_ret ?_
      | refine blockQ_ret ?_
      | refine loopQ_exit ?_
      | refine loopQ_ret ?_
      | refine J_label ?_
      | refine J_scope ?_
      | refine scopeQ_normal ?_
      | refine scopeQ_exit ?_
      | refine scopeQ_ret ?_
    exact retQ_ret _ [slc tZ true X L] (.cons (RV_tmp rfl) .nil) ⟨rfl, rfl⟩ (Ent.re [0, 2] rfl)
theorem rwtake_ok (E : World) (size : Nat) (X : SV) (L : List Int) (z : Int) (hs : size ≤ 64) (hl : L.length ≤ 1000000) (hz : z ≤ 9223372036854775807) : Does Try.prog E 11 [refW size X, .int .i64 z] [slc tZ true X L] fun v Lc => ∃ X' : SV, v = .tuple #[refW size X', .bool (takeB size L z)] ∧ Lc = [slc tZ true X' (takeL size L z)] := by
  have hble := baseOf_le L
  have hh := rwhas_ok E size X L z hl
  have hbs := rwbase_ok E size X L hl
  refine Does.of Try.func11 rfl Try.ntmps11 rfl rfl fun F => ?_
  refine J.norm ?_
  repeat first
    | refine J_seq ?_
    | refine seqQ_normal ?_
    | refine J_condT rfl ?_
    | refine J_condF rfl ?_
    | refine J_block ?_
    | refine blockQ_normal ?_
    | refine J_exit ?_
    | refine seqQ_exit ?_
    | refine blockQ_hit ?_
    | refine blockQ_miss rfl ?_
    | refine J_skip ?_
    | refine J_ret ?_
    | refine seqQ_ret ?_
    | refine blockQ_ret ?_
    | refine loopQ_exit ?_
    | refine loopQ_ret ?_
    | refine J_label ?_
    | refine J_scope ?_
    | refine scopeQ_normal ?_
    | refine scopeQ_exit ?_
    | refine scopeQ_ret ?_
  refine J_region ?_
  refine L_o rfl rfl rfl (O_box rfl fun b2 => ?_)
  refine L_o rfl rfl rfl (O_alloc fun b4 => ?_)
  refine L_q (Q_assign rfl) rfl rfl rfl ?_
  refine JL_nil ?_
  repeat first
    | refine J_seq ?_
    | refine seqQ_normal ?_
    | refine J_condT rfl ?_
    | refine J_condF rfl ?_
    | refine J_block ?_
    | refine blockQ_normal ?_
    | refine J_exit ?_
    | refine seqQ_exit ?_
    | refine blockQ_hit ?_
    | refine blockQ_miss rfl ?_
    | refine J_skip ?_
    | refine J_ret ?_
    | refine seqQ_ret ?_
    | refine blockQ_ret ?_
    | refine loopQ_exit ?_
    | refine loopQ_ret ?_
    | refine J_label ?_
    | refine J_scope ?_
    | refine scopeQ_normal ?_
    | refine scopeQ_exit ?_
    | refine scopeQ_ret ?_
  by_cases h3 : z ∈ L
  · have ht : takeB size L z = false := by
      simp only [takeB, decide_eq_false_iff_not]
      exact fun h => h.1 h3
    have hT : takeL size L z = L := by unfold takeL; rw [ht]; rfl
    rw [ht, hT]
    rw [decide_eq_true h3] at hh
    repeat first
      | refine J_seq ?_
      | refine seqQ_normal ?_
      | refine J_condT rfl ?_
      | refine J_condF rfl ?_
      | refine J_block ?_
      | refine blockQ_normal ?_
      | refine J_exit ?_
      | refine seqQ_exit ?_
      | refine blockQ_hit ?_
      | refine blockQ_miss rfl ?_
      | refine J_skip ?_
      | refine J_ret ?_
      | refine seqQ_ret ?_
      | refine blockQ_ret ?_
      | refine loopQ_exit ?_
      | refine loopQ_ret ?_
      | refine J_label ?_
      | refine J_scope ?_
      | refine scopeQ_normal ?_
      | refine scopeQ_exit ?_
      | refine scopeQ_ret ?_
    refine J_drawH [1] [0, 1, 3, 4, 5, 6, 7, 8, 9, 11, 12, 13, 14, 15] (.quiet 0 (.quiet 1 (.loud 2 (.quiet 3 (.quiet 4 (.quiet 5 (.quiet 6 (.quiet 7 (.quiet 8 (.quiet 9 (.quiet 12 (.quiet 13 (.loud 10 (.quiet 11 (.quiet 14 (.quiet 15 .done)))))))))))))))) Try.mixed (by kernel_rfl) (by kernel_rfl) (by repeat (first | exact retQ_noP | refine seqQ_noP ?_ | refine blockQ_noP ?_ | refine loopQ_noP ?_ | refine scopeQ_noP ?_)) ?_
    first
      | refine S_q (Ent.re [1] rfl) rfl (Q_ldA 0 rfl rfl rfl) rfl rfl rfl ?_
      | refine S_q (Ent.re [1] rfl) rfl (Q_ldA 1 rfl rfl rfl) rfl rfl rfl ?_
      | refine S_q (Ent.re [1] rfl) rfl (Q_ldA 2 rfl rfl rfl) rfl rfl rfl ?_
      | refine S_q (Ent.re [1] rfl) rfl (Q_ldA 3 rfl rfl rfl) rfl rfl rfl ?_
      | refine S_q (Ent.re [1] rfl) rfl (Q_ldA 4 rfl rfl rfl) rfl rfl rfl ?_
      | refine S_q (Ent.re [1] rfl) rfl (Q_ldA 5 rfl rfl rfl) rfl rfl rfl ?_
      | refine S_q (Ent.re [1] rfl) rfl (Q_ldA 6 rfl rfl rfl) rfl rfl rfl ?_
      | refine S_q (Ent.re [1] rfl) rfl (Q_ldA 7 rfl rfl rfl) rfl rfl rfl ?_
      | refine S_q (Ent.re [1] rfl) rfl (Q_ldA 8 rfl rfl rfl) rfl rfl rfl ?_
      | refine S_q (Ent.re [1] rfl) rfl (Q_ldA 9 rfl rfl rfl) rfl rfl rfl ?_
    refine S_q (Ent.re [1] rfl) rfl (Q_move rfl) rfl rfl rfl ?_
    refine S_o rfl rfl rfl rfl (O_call [2] [0,1,3] hh rfl rfl ?_)
    (rintro _ _ ⟨rfl, rfl⟩; refine ⟨_, fun _ => ⟨Ent.reN [2] rfl, Ent.refl _⟩, ?_⟩)
    refine JS.norm ?_
    refine S_q (Ent.re [2] rfl) rfl (Q_move rfl) rfl rfl rfl ?_
    refine S_n (Ent.re [2] rfl) rfl rfl rfl rfl ?_
    refine S_n (Ent.re [2] rfl) rfl rfl rfl rfl ?_
    first
      | refine S_q (Ent.re [2] rfl) rfl (Q_pickT rfl rfl) rfl rfl rfl ?_
      | refine S_q (Ent.re [2] rfl) rfl (Q_pickF rfl rfl) rfl rfl rfl ?_
      | refine S_q (Ent.re [2] rfl) rfl (Q_pickB rfl rfl rfl) rfl rfl rfl ?_
    refine S_q (Ent.re [2] rfl) rfl (Q_move rfl) rfl rfl rfl ?_
    refine S_n (Ent.re [2] rfl) rfl rfl rfl rfl ?_
    refine S_n (Ent.re [2] rfl) rfl rfl rfl rfl ?_
    refine S_n (Ent.re [2] rfl) rfl rfl rfl rfl ?_
    refine S_n (Ent.re [2] rfl) rfl rfl rfl rfl ?_
    refine S_no rfl rfl rfl rfl (fun _ => (Ent.re [2] rfl)) ?_
    refine S_n (Ent.re [2] rfl) rfl rfl rfl rfl ?_
    refine S_n (Ent.re [2] rfl) rfl rfl rfl rfl ?_
    first
      | refine S_q (Ent.re [2] rfl) rfl (Q_pickT rfl rfl) rfl rfl rfl ?_
      | refine S_q (Ent.re [2] rfl) rfl (Q_pickF rfl rfl) rfl rfl rfl ?_
      | refine S_q (Ent.re [2] rfl) rfl (Q_pickB rfl rfl rfl) rfl rfl rfl ?_
    refine S_nil ?_
    repeat first
      | refine J_seq ?_
      | refine seqQ_normal ?_
      | refine J_condT rfl ?_
      | refine J_condF rfl ?_
      | refine J_block ?_
      | refine blockQ_normal ?_
      | refine J_exit ?_
      | refine seqQ_exit ?_
      | refine blockQ_hit ?_
      | refine blockQ_miss rfl ?_
      | refine J_skip ?_
      | refine J_ret ?_
      | refine seqQ_ret ?_
      | refine blockQ_ret ?_
      | refine loopQ_exit ?_
      | refine loopQ_ret ?_
      | refine J_label ?_
      | refine J_scope ?_
      | refine scopeQ_normal ?_
      | refine scopeQ_exit ?_
      | refine scopeQ_ret ?_
    repeat first
      | refine J_seq ?_
      | refine seqQ_normal ?_
      | refine J_condT rfl ?_
      | refine J_condF rfl ?_
      | refine J_block ?_
      | refine blockQ_normal ?_
      | refine J_exit ?_
      | refine seqQ_exit ?_
      | refine blockQ_hit ?_
      | refine blockQ_miss rfl ?_
      | refine J_skip ?_
      | refine J_ret ?_
      | refine seqQ_ret ?_
      | refine blockQ_ret ?_
      | refine loopQ_exit ?_
      | refine loopQ_ret ?_
      | refine J_label ?_
      | refine J_scope ?_
      | refine scopeQ_normal ?_
      | refine scopeQ_exit ?_
      | refine scopeQ_ret ?_
    refine J_region ?_
    first
      | refine L_q (Q_ldA 0 rfl rfl rfl) rfl rfl rfl ?_
      | refine L_q (Q_ldA 1 rfl rfl rfl) rfl rfl rfl ?_
      | refine L_q (Q_ldA 2 rfl rfl rfl) rfl rfl rfl ?_
      | refine L_q (Q_ldA 3 rfl rfl rfl) rfl rfl rfl ?_
      | refine L_q (Q_ldA 4 rfl rfl rfl) rfl rfl rfl ?_
      | refine L_q (Q_ldA 5 rfl rfl rfl) rfl rfl rfl ?_
      | refine L_q (Q_ldA 6 rfl rfl rfl) rfl rfl rfl ?_
      | refine L_q (Q_ldA 7 rfl rfl rfl) rfl rfl rfl ?_
      | refine L_q (Q_ldA 8 rfl rfl rfl) rfl rfl rfl ?_
      | refine L_q (Q_ldA 9 rfl rfl rfl) rfl rfl rfl ?_
    first
      | refine L_s rfl rfl (O_stW 0 rfl rfl rfl rfl ?_)
      | refine L_s rfl rfl (O_stW 1 rfl rfl rfl rfl ?_)
      | refine L_s rfl rfl (O_stW 2 rfl rfl rfl rfl ?_)
      | refine L_s rfl rfl (O_stW 3 rfl rfl rfl rfl ?_)
      | refine L_s rfl rfl (O_stW 4 rfl rfl rfl rfl ?_)
      | refine L_s rfl rfl (O_stW 5 rfl rfl rfl rfl ?_)
      | refine L_s rfl rfl (O_stW 6 rfl rfl rfl rfl ?_)
      | refine L_s rfl rfl (O_stW 7 rfl rfl rfl rfl ?_)
      | refine L_s rfl rfl (O_stW 8 rfl rfl rfl rfl ?_)
      | refine L_s rfl rfl (O_stW 9 rfl rfl rfl rfl ?_)
    refine JL.norm ?_
    refine L_q (Q_assign rfl) rfl rfl rfl ?_
    refine JL_nil ?_
    repeat first
      | refine J_seq ?_
      | refine seqQ_normal ?_
      | refine J_condT rfl ?_
      | refine J_condF rfl ?_
      | refine J_block ?_
      | refine blockQ_normal ?_
      | refine J_exit ?_
      | refine seqQ_exit ?_
      | refine blockQ_hit ?_
      | refine blockQ_miss rfl ?_
      | refine J_skip ?_
      | refine J_ret ?_
      | refine seqQ_ret ?_
      | refine blockQ_ret ?_
      | refine loopQ_exit ?_
      | refine loopQ_ret ?_
      | refine J_label ?_
      | refine J_scope ?_
      | refine scopeQ_normal ?_
      | refine scopeQ_exit ?_
      | refine scopeQ_ret ?_
    exact retQ_ret _ [slc tZ true X L] (.cons (RV_cell 1 rfl rfl rfl rfl) (.cons (RV_tmp rfl) .nil)) ⟨X, rfl, rfl⟩ (Ent.re [0, 3] rfl)
  rw [decide_eq_false h3] at hh
  by_cases h1 : z < 0
  · have ht : takeB size L z = false := by
      simp only [takeB, decide_eq_false_iff_not]
      rintro ⟨_, h4, _⟩
      omega
    have hT : takeL size L z = L := by unfold takeL; rw [ht]; rfl
    rw [ht, hT]
    repeat first
      | refine J_seq ?_
      | refine seqQ_normal ?_
      | refine J_condT rfl ?_
      | refine J_condF rfl ?_
      | refine J_block ?_
      | refine blockQ_normal ?_
      | refine J_exit ?_
      | refine seqQ_exit ?_
      | refine blockQ_hit ?_
      | refine blockQ_miss rfl ?_
      | refine J_skip ?_
      | refine J_ret ?_
      | refine seqQ_ret ?_
      | refine blockQ_ret ?_
      | refine loopQ_exit ?_
      | refine loopQ_ret ?_
      | refine J_label ?_
      | refine J_scope ?_
      | refine scopeQ_normal ?_
      | refine scopeQ_exit ?_
      | refine scopeQ_ret ?_
    refine J_drawH [1] [0, 1, 3, 4, 5, 6, 7, 8, 9, 11, 12, 13, 14, 15] (.quiet 0 (.quiet 1 (.loud 2 (.quiet 3 (.quiet 4 (.quiet 5 (.quiet 6 (.quiet 7 (.quiet 8 (.quiet 9 (.quiet 12 (.quiet 13 (.loud 10 (.quiet 11 (.quiet 14 (.quiet 15 .done)))))))))))))))) Try.mixed (by kernel_rfl) (by kernel_rfl) (by repeat (first | exact retQ_noP | refine seqQ_noP ?_ | refine blockQ_noP ?_ | refine loopQ_noP ?_ | refine scopeQ_noP ?_)) ?_
    first
      | refine S_q (Ent.re [1] rfl) rfl (Q_ldA 0 rfl rfl rfl) rfl rfl rfl ?_
      | refine S_q (Ent.re [1] rfl) rfl (Q_ldA 1 rfl rfl rfl) rfl rfl rfl ?_
      | refine S_q (Ent.re [1] rfl) rfl (Q_ldA 2 rfl rfl rfl) rfl rfl rfl ?_
      | refine S_q (Ent.re [1] rfl) rfl (Q_ldA 3 rfl rfl rfl) rfl rfl rfl ?_
      | refine S_q (Ent.re [1] rfl) rfl (Q_ldA 4 rfl rfl rfl) rfl rfl rfl ?_
      | refine S_q (Ent.re [1] rfl) rfl (Q_ldA 5 rfl rfl rfl) rfl rfl rfl ?_
      | refine S_q (Ent.re [1] rfl) rfl (Q_ldA 6 rfl rfl rfl) rfl rfl rfl ?_
      | refine S_q (Ent.re [1] rfl) rfl (Q_ldA 7 rfl rfl rfl) rfl rfl rfl ?_
      | refine S_q (Ent.re [1] rfl) rfl (Q_ldA 8 rfl rfl rfl) rfl rfl rfl ?_
      | refine S_q (Ent.re [1] rfl) rfl (Q_ldA 9 rfl rfl rfl) rfl rfl rfl ?_
    refine S_q (Ent.re [1] rfl) rfl (Q_move rfl) rfl rfl rfl ?_
    refine S_o rfl rfl rfl rfl (O_call [2] [0,1,3] hh rfl rfl ?_)
    (rintro _ _ ⟨rfl, rfl⟩; refine ⟨_, fun _ => ⟨Ent.reN [2] rfl, Ent.refl _⟩, ?_⟩)
    refine JS.norm ?_
    refine S_q (Ent.re [2] rfl) rfl (Q_move rfl) rfl rfl rfl ?_
    refine S_q (Ent.re [2] rfl) rfl (Q_move rfl) rfl rfl rfl ?_
    refine S_q (Ent.re [2] rfl) rfl ((Q_lss rfl rfl).as (v' := .bool true) (congrArg Value.bool (decide_eq_true h1))) rfl rfl rfl ?_
    first
      | refine S_q (Ent.re [2] rfl) rfl (Q_pickT rfl rfl) rfl rfl rfl ?_
      | refine S_q (Ent.re [2] rfl) rfl (Q_pickF rfl rfl) rfl rfl rfl ?_
      | refine S_q (Ent.re [2] rfl) rfl (Q_pickB rfl rfl rfl) rfl rfl rfl ?_
    refine S_q (Ent.re [2] rfl) rfl (Q_move rfl) rfl rfl rfl ?_
    refine S_n (Ent.re [2] rfl) rfl rfl rfl rfl ?_
    refine S_n (Ent.re [2] rfl) rfl rfl rfl rfl ?_
    refine S_n (Ent.re [2] rfl) rfl rfl rfl rfl ?_
    refine S_n (Ent.re [2] rfl) rfl rfl rfl rfl ?_
    refine S_no rfl rfl rfl rfl (fun _ => (Ent.re [2] rfl)) ?_
    refine S_n (Ent.re [2] rfl) rfl rfl rfl rfl ?_
    refine S_n (Ent.re [2] rfl) rfl rfl rfl rfl ?_
    first
      | refine S_q (Ent.re [2] rfl) rfl (Q_pickT rfl rfl) rfl rfl rfl ?_
      | refine S_q (Ent.re [2] rfl) rfl (Q_pickF rfl rfl) rfl rfl rfl ?_
      | refine S_q (Ent.re [2] rfl) rfl (Q_pickB rfl rfl rfl) rfl rfl rfl ?_
    refine S_nil ?_
    repeat first
      | refine J_seq ?_
      | refine seqQ_normal ?_
      | refine J_condT rfl ?_
      | refine J_condF rfl ?_
      | refine J_block ?_
      | refine blockQ_normal ?_
      | refine J_exit ?_
      | refine seqQ_exit ?_
      | refine blockQ_hit ?_
      | refine blockQ_miss rfl ?_
      | refine J_skip ?_
      | refine J_ret ?_
      | refine seqQ_ret ?_
      | refine blockQ_ret ?_
      | refine loopQ_exit ?_
      | refine loopQ_ret ?_
      | refine J_label ?_
      | refine J_scope ?_
      | refine scopeQ_normal ?_
      | refine scopeQ_exit ?_
      | refine scopeQ_ret ?_
    repeat first
      | refine J_seq ?_
      | refine seqQ_normal ?_
      | refine J_condT rfl ?_
      | refine J_condF rfl ?_
      | refine J_block ?_
      | refine blockQ_normal ?_
      | refine J_exit ?_
      | refine seqQ_exit ?_
      | refine blockQ_hit ?_
      | refine blockQ_miss rfl ?_
      | refine J_skip ?_
      | refine J_ret ?_
      | refine seqQ_ret ?_
      | refine blockQ_ret ?_
      | refine loopQ_exit ?_
      | refine loopQ_ret ?_
      | refine J_label ?_
      | refine J_scope ?_
      | refine scopeQ_normal ?_
      | refine scopeQ_exit ?_
      | refine scopeQ_ret ?_
    refine J_region ?_
    first
      | refine L_q (Q_ldA 0 rfl rfl rfl) rfl rfl rfl ?_
      | refine L_q (Q_ldA 1 rfl rfl rfl) rfl rfl rfl ?_
      | refine L_q (Q_ldA 2 rfl rfl rfl) rfl rfl rfl ?_
      | refine L_q (Q_ldA 3 rfl rfl rfl) rfl rfl rfl ?_
      | refine L_q (Q_ldA 4 rfl rfl rfl) rfl rfl rfl ?_
      | refine L_q (Q_ldA 5 rfl rfl rfl) rfl rfl rfl ?_
      | refine L_q (Q_ldA 6 rfl rfl rfl) rfl rfl rfl ?_
      | refine L_q (Q_ldA 7 rfl rfl rfl) rfl rfl rfl ?_
      | refine L_q (Q_ldA 8 rfl rfl rfl) rfl rfl rfl ?_
      | refine L_q (Q_ldA 9 rfl rfl rfl) rfl rfl rfl ?_
    first
      | refine L_s rfl rfl (O_stW 0 rfl rfl rfl rfl ?_)
      | refine L_s rfl rfl (O_stW 1 rfl rfl rfl rfl ?_)
      | refine L_s rfl rfl (O_stW 2 rfl rfl rfl rfl ?_)
      | refine L_s rfl rfl (O_stW 3 rfl rfl rfl rfl ?_)
      | refine L_s rfl rfl (O_stW 4 rfl rfl rfl rfl ?_)
      | refine L_s rfl rfl (O_stW 5 rfl rfl rfl rfl ?_)
      | refine L_s rfl rfl (O_stW 6 rfl rfl rfl rfl ?_)
      | refine L_s rfl rfl (O_stW 7 rfl rfl rfl rfl ?_)
      | refine L_s rfl rfl (O_stW 8 rfl rfl rfl rfl ?_)
      | refine L_s rfl rfl (O_stW 9 rfl rfl rfl rfl ?_)
    refine JL.norm ?_
    refine L_q (Q_assign rfl) rfl rfl rfl ?_
    refine JL_nil ?_
    repeat first
      | refine J_seq ?_
      | refine seqQ_normal ?_
      | refine J_condT rfl ?_
      | refine J_condF rfl ?_
      | refine J_block ?_
      | refine blockQ_normal ?_
      | refine J_exit ?_
      | refine seqQ_exit ?_
      | refine blockQ_hit ?_
      | refine blockQ_miss rfl ?_
      | refine J_skip ?_
      | refine J_ret ?_
      | refine seqQ_ret ?_
      | refine blockQ_ret ?_
      | refine loopQ_exit ?_
      | refine loopQ_ret ?_
      | refine J_label ?_
      | refine J_scope ?_
      | refine scopeQ_normal ?_
      | refine scopeQ_exit ?_
      | refine scopeQ_ret ?_
    exact retQ_ret _ [slc tZ true X L] (.cons (RV_cell 1 rfl rfl rfl rfl) (.cons (RV_tmp rfl) .nil)) ⟨X, rfl, rfl⟩ (Ent.re [0, 3] rfl)
  by_cases h2 : (size : Int) ≤ z - (baseOf L : Int)
  · have ht : takeB size L z = false := by
      simp only [takeB, decide_eq_false_iff_not]
      rintro ⟨_, _, h4⟩
      omega
    have hT : takeL size L z = L := by unfold takeL; rw [ht]; rfl
    rw [ht, hT]
    repeat first
      | refine J_seq ?_
      | refine seqQ_normal ?_
      | refine J_condT rfl ?_
      | refine J_condF rfl ?_
      | refine J_block ?_
      | refine blockQ_normal ?_
      | refine J_exit ?_
      | refine seqQ_exit ?_
      | refine blockQ_hit ?_
      | refine blockQ_miss rfl ?_
      | refine J_skip ?_
      | refine J_ret ?_
      | refine seqQ_ret ?_
      | refine blockQ_ret ?_
      | refine loopQ_exit ?_
      | refine loopQ_ret ?_
      | refine J_label ?_
      | refine J_scope ?_
      | refine scopeQ_normal ?_
      | refine scopeQ_exit ?_
      | refine scopeQ_ret ?_
    refine J_drawH [1] [0, 1, 3, 4, 5, 6, 7, 8, 9, 11, 12, 13, 14, 15] (.quiet 0 (.quiet 1 (.loud 2 (.quiet 3 (.quiet 4 (.quiet 5 (.quiet 6 (.quiet 7 (.quiet 8 (.quiet 9 (.quiet 12 (.quiet 13 (.loud 10 (.quiet 11 (.quiet 14 (.quiet 15 .done)))))))))))))))) Try.mixed (by kernel_rfl) (by kernel_rfl) (by repeat (first | exact retQ_noP | refine seqQ_noP ?_ | refine blockQ_noP ?_ | refine loopQ_noP ?_ | refine scopeQ_noP ?_)) ?_
    first
      | refine S_q (Ent.re [1] rfl) rfl (Q_ldA 0 rfl rfl rfl) rfl rfl rfl ?_
      | refine S_q (Ent.re [1] rfl) rfl (Q_ldA 1 rfl rfl rfl) rfl rfl rfl ?_
      | refine S_q (Ent.re [1] rfl) rfl (Q_ldA 2 rfl rfl rfl) rfl rfl rfl ?_
      | refine S_q (Ent.re [1] rfl) rfl (Q_ldA 3 rfl rfl rfl) rfl rfl rfl ?_
      | refine S_q (Ent.re [1] rfl) rfl (Q_ldA 4 rfl rfl rfl) rfl rfl rfl ?_
      | refine S_q (Ent.re [1] rfl) rfl (Q_ldA 5 rfl rfl rfl) rfl rfl rfl ?_
      | refine S_q (Ent.re [1] rfl) rfl (Q_ldA 6 rfl rfl rfl) rfl rfl rfl ?_
      | refine S_q (Ent.re [1] rfl) rfl (Q_ldA 7 rfl rfl rfl) rfl rfl rfl ?_
      | refine S_q (Ent.re [1] rfl) rfl (Q_ldA 8 rfl rfl rfl) rfl rfl rfl ?_
      | refine S_q (Ent.re [1] rfl) rfl (Q_ldA 9 rfl rfl rfl) rfl rfl rfl ?_
    refine S_q (Ent.re [1] rfl) rfl (Q_move rfl) rfl rfl rfl ?_
    refine S_o rfl rfl rfl rfl (O_call [2] [0,1,3] hh rfl rfl ?_)
    (rintro _ _ ⟨rfl, rfl⟩; refine ⟨_, fun _ => ⟨Ent.reN [2] rfl, Ent.refl _⟩, ?_⟩)
    refine JS.norm ?_
    refine S_q (Ent.re [2] rfl) rfl (Q_move rfl) rfl rfl rfl ?_
    refine S_q (Ent.re [2] rfl) rfl (Q_move rfl) rfl rfl rfl ?_
    refine S_q (Ent.re [2] rfl) rfl ((Q_lss rfl rfl).as (v' := .bool false) (congrArg Value.bool (decide_eq_false h1))) rfl rfl rfl ?_
    first
      | refine S_q (Ent.re [2] rfl) rfl (Q_pickT rfl rfl) rfl rfl rfl ?_
      | refine S_q (Ent.re [2] rfl) rfl (Q_pickF rfl rfl) rfl rfl rfl ?_
      | refine S_q (Ent.re [2] rfl) rfl (Q_pickB rfl rfl rfl) rfl rfl rfl ?_
    refine S_q (Ent.re [2] rfl) rfl (Q_move rfl) rfl rfl rfl ?_
    refine S_q (Ent.re [2] rfl) rfl (Q_move rfl) rfl rfl rfl ?_
    first
      | refine S_q (Ent.re [2] rfl) rfl (Q_ldA 0 rfl rfl rfl) rfl rfl rfl ?_
      | refine S_q (Ent.re [2] rfl) rfl (Q_ldA 1 rfl rfl rfl) rfl rfl rfl ?_
      | refine S_q (Ent.re [2] rfl) rfl (Q_ldA 2 rfl rfl rfl) rfl rfl rfl ?_
      | refine S_q (Ent.re [2] rfl) rfl (Q_ldA 3 rfl rfl rfl) rfl rfl rfl ?_
      | refine S_q (Ent.re [2] rfl) rfl (Q_ldA 4 rfl rfl rfl) rfl rfl rfl ?_
      | refine S_q (Ent.re [2] rfl) rfl (Q_ldA 5 rfl rfl rfl) rfl rfl rfl ?_
      | refine S_q (Ent.re [2] rfl) rfl (Q_ldA 6 rfl rfl rfl) rfl rfl rfl ?_
      | refine S_q (Ent.re [2] rfl) rfl (Q_ldA 7 rfl rfl rfl) rfl rfl rfl ?_
      | refine S_q (Ent.re [2] rfl) rfl (Q_ldA 8 rfl rfl rfl) rfl rfl rfl ?_
      | refine S_q (Ent.re [2] rfl) rfl (Q_ldA 9 rfl rfl rfl) rfl rfl rfl ?_
    first
      | refine S_q (Ent.re [2] rfl) rfl (Q_fa0 rfl) rfl rfl rfl ?_
      | refine S_q (Ent.re [2] rfl) rfl (Q_fa rfl rfl) rfl rfl rfl ?_
      | refine S_q (Ent.re [2] rfl) rfl (Q_pfa rfl) rfl rfl rfl ?_
    first
      | refine S_q (Ent.re [2] rfl) rfl (Q_ld 0 rfl rfl rfl rfl) rfl rfl rfl ?_
      | refine S_q (Ent.re [2] rfl) rfl (Q_ld 1 rfl rfl rfl rfl) rfl rfl rfl ?_
      | refine S_q (Ent.re [2] rfl) rfl (Q_ld 2 rfl rfl rfl rfl) rfl rfl rfl ?_
      | refine S_q (Ent.re [2] rfl) rfl (Q_ld 3 rfl rfl rfl rfl) rfl rfl rfl ?_
      | refine S_q (Ent.re [2] rfl) rfl (Q_ld 4 rfl rfl rfl rfl) rfl rfl rfl ?_
      | refine S_q (Ent.re [2] rfl) rfl (Q_ld 5 rfl rfl rfl rfl) rfl rfl rfl ?_
      | refine S_q (Ent.re [2] rfl) rfl (Q_ld 6 rfl rfl rfl rfl) rfl rfl rfl ?_
      | refine S_q (Ent.re [2] rfl) rfl (Q_ld 7 rfl rfl rfl rfl) rfl rfl rfl ?_
      | refine S_q (Ent.re [2] rfl) rfl (Q_ld 8 rfl rfl rfl rfl) rfl rfl rfl ?_
      | refine S_q (Ent.re [2] rfl) rfl (Q_ld 9 rfl rfl rfl rfl) rfl rfl rfl ?_
    refine S_o rfl rfl rfl rfl (O_call [0] [1,2,3] hbs rfl rfl ?_)
    (rintro _ _ ⟨rfl, rfl⟩; refine ⟨_, fun _ => ⟨Ent.reN [2] rfl, Ent.refl _⟩, ?_⟩)
    refine JS.norm ?_
    refine S_q (Ent.re [2] rfl) rfl (Q_sub rfl rfl (by first | exact IntWalk.i64_in _ (by omega) | exact IntWalk.u8_in _ (by omega) | exact IntWalk.u32_in _ (by omega) | exact IntWalk.u64_in _ (by omega) | rfl)) rfl rfl rfl ?_
    refine S_q (Ent.re [2] rfl) rfl ((Q_geq rfl rfl).as (v' := .bool true) (congrArg Value.bool (decide_eq_true h2))) rfl rfl rfl ?_
    first
      | refine S_q (Ent.re [2] rfl) rfl (Q_pickT rfl rfl) rfl rfl rfl ?_
      | refine S_q (Ent.re [2] rfl) rfl (Q_pickF rfl rfl) rfl rfl rfl ?_
      | refine S_q (Ent.re [2] rfl) rfl (Q_pickB rfl rfl rfl) rfl rfl rfl ?_
    refine S_nil ?_
    repeat first
      | refine J_seq ?_
      | refine seqQ_normal ?_
      | refine J_condT rfl ?_
      | refine J_condF rfl ?_
      | refine J_block ?_
      | refine blockQ_normal ?_
      | refine J_exit ?_
      | refine seqQ_exit ?_
      | refine blockQ_hit ?_
      | refine blockQ_miss rfl ?_
      | refine J_skip ?_
      | refine J_ret ?_
      | refine seqQ_ret ?_
      | refine blockQ_ret ?_
      | refine loopQ_exit ?_
      | refine loopQ_ret ?_
      | refine J_label ?_
      | refine J_scope ?_
      | refine scopeQ_normal ?_
      | refine scopeQ_exit ?_
      | refine scopeQ_ret ?_
    repeat first
      | refine J_seq ?_
      | refine seqQ_normal ?_
      | refine J_condT rfl ?_
      | refine J_condF rfl ?_
      | refine J_block ?_
      | refine blockQ_normal ?_
      | refine J_exit ?_
      | refine seqQ_exit ?_
      | refine blockQ_hit ?_
      | refine blockQ_miss rfl ?_
      | refine J_skip ?_
      | refine J_ret ?_
      | refine seqQ_ret ?_
      | refine blockQ_ret ?_
      | refine loopQ_exit ?_
      | refine loopQ_ret ?_
      | refine J_label ?_
      | refine J_scope ?_
      | refine scopeQ_normal ?_
      | refine scopeQ_exit ?_
      | refine scopeQ_ret ?_
    refine J_region ?_
    first
      | refine L_q (Q_ldA 0 rfl rfl rfl) rfl rfl rfl ?_
      | refine L_q (Q_ldA 1 rfl rfl rfl) rfl rfl rfl ?_
      | refine L_q (Q_ldA 2 rfl rfl rfl) rfl rfl rfl ?_
      | refine L_q (Q_ldA 3 rfl rfl rfl) rfl rfl rfl ?_
      | refine L_q (Q_ldA 4 rfl rfl rfl) rfl rfl rfl ?_
      | refine L_q (Q_ldA 5 rfl rfl rfl) rfl rfl rfl ?_
      | refine L_q (Q_ldA 6 rfl rfl rfl) rfl rfl rfl ?_
      | refine L_q (Q_ldA 7 rfl rfl rfl) rfl rfl rfl ?_
      | refine L_q (Q_ldA 8 rfl rfl rfl) rfl rfl rfl ?_
      | refine L_q (Q_ldA 9 rfl rfl rfl) rfl rfl rfl ?_
    first
      | refine L_s rfl rfl (O_stW 0 rfl rfl rfl rfl ?_)
      | refine L_s rfl rfl (O_stW 1 rfl rfl rfl rfl ?_)
      | refine L_s rfl rfl (O_stW 2 rfl rfl rfl rfl ?_)
      | refine L_s rfl rfl (O_stW 3 rfl rfl rfl rfl ?_)
      | refine L_s rfl rfl (O_stW 4 rfl rfl rfl rfl ?_)
      | refine L_s rfl rfl (O_stW 5 rfl rfl rfl rfl ?_)
      | refine L_s rfl rfl (O_stW 6 rfl rfl rfl rfl ?_)
      | refine L_s rfl rfl (O_stW 7 rfl rfl rfl rfl ?_)
      | refine L_s rfl rfl (O_stW 8 rfl rfl rfl rfl ?_)
      | refine L_s rfl rfl (O_stW 9 rfl rfl rfl rfl ?_)
    refine JL.norm ?_
    refine L_q (Q_assign rfl) rfl rfl rfl ?_
    refine JL_nil ?_
    repeat first
      | refine J_seq ?_
      | refine seqQ_normal ?_
      | refine J_condT rfl ?_
      | refine J_condF rfl ?_
      | refine J_block ?_
      | refine blockQ_normal ?_
      | refine J_exit ?_
      | refine seqQ_exit ?_
      | refine blockQ_hit ?_
      | refine blockQ_miss rfl ?_
      | refine J_skip ?_
      | refine J_ret ?_
      | refine seqQ_ret ?_
      | refine blockQ_ret ?_
      | refine loopQ_exit ?_
      | refine loopQ_ret ?_
      | refine J_label ?_
      | refine J_scope ?_
      | refine scopeQ_normal ?_
      | refine scopeQ_exit ?_
      | refine scopeQ_ret ?_
    exact retQ_ret _ [slc tZ true X L] (.cons (RV_cell 1 rfl rfl rfl rfl) (.cons (RV_tmp rfl) .nil)) ⟨X, rfl, rfl⟩ (Ent.re [0, 3] rfl)
  · have ht : takeB size L z = true := by
      simp only [takeB, decide_eq_true_eq]
      exact ⟨h3, by omega, by omega⟩
    have hT : takeL size L z = L ++ [z] := by unfold takeL; rw [ht]; rfl
    rw [ht, hT]
    repeat first
      | refine J_seq ?_
      | refine seqQ_normal ?_
      | refine J_condT rfl ?_
      | refine J_condF rfl ?_
      | refine J_block ?_
      | refine blockQ_normal ?_
      | refine J_exit ?_
      | refine seqQ_exit ?_
      | refine blockQ_hit ?_
      | refine blockQ_miss rfl ?_
      | refine J_skip ?_
      | refine J_ret ?_
      | refine seqQ_ret ?_
      | refine blockQ_ret ?_
      | refine loopQ_exit ?_
      | refine loopQ_ret ?_
      | refine J_label ?_
      | refine J_scope ?_
      | refine scopeQ_normal ?_
      | refine scopeQ_exit ?_
      | refine scopeQ_ret ?_
    refine J_drawH [1] [0, 1, 3, 4, 5, 6, 7, 8, 9, 11, 12, 13, 14, 15] (.quiet 0 (.quiet 1 (.loud 2 (.quiet 3 (.quiet 4 (.quiet 5 (.quiet 6 (.quiet 7 (.quiet 8 (.quiet 9 (.quiet 12 (.quiet 13 (.loud 10 (.quiet 11 (.quiet 14 (.quiet 15 .done)))))))))))))))) Try.mixed (by kernel_rfl) (by kernel_rfl) (by repeat (first | exact retQ_noP | refine seqQ_noP ?_ | refine blockQ_noP ?_ | refine loopQ_noP ?_ | refine scopeQ_noP ?_)) ?_
    first
      | refine S_q (Ent.re [1] rfl) rfl (Q_ldA 0 rfl rfl rfl) rfl rfl rfl ?_
      | refine S_q (Ent.re [1] rfl) rfl (Q_ldA 1 rfl rfl rfl) rfl rfl rfl ?_
      | refine S_q (Ent.re [1] rfl) rfl (Q_ldA 2 rfl rfl rfl) rfl rfl rfl ?_
      | refine S_q (Ent.re [1] rfl) rfl (Q_ldA 3 rfl rfl rfl) rfl rfl rfl ?_
      | refine S_q (Ent.re [1] rfl) rfl (Q_ldA 4 rfl rfl rfl) rfl rfl rfl ?_
      | refine S_q (Ent.re [1] rfl) rfl (Q_ldA 5 rfl rfl rfl) rfl rfl rfl ?_
      | refine S_q (Ent.re [1] rfl) rfl (Q_ldA 6 rfl rfl rfl) rfl rfl rfl ?_
      | refine S_q (Ent.re [1] rfl) rfl (Q_ldA 7 rfl rfl rfl) rfl rfl rfl ?_
      | refine S_q (Ent.re [1] rfl) rfl (Q_ldA 8 rfl rfl rfl) rfl rfl rfl ?_
      | refine S_q (Ent.re [1] rfl) rfl (Q_ldA 9 rfl rfl rfl) rfl rfl rfl ?_
    refine S_q (Ent.re [1] rfl) rfl (Q_move rfl) rfl rfl rfl ?_
    refine S_o rfl rfl rfl rfl (O_call [2] [0,1,3] hh rfl rfl ?_)
    (rintro _ _ ⟨rfl, rfl⟩; refine ⟨_, fun _ => ⟨Ent.reN [2] rfl, Ent.refl _⟩, ?_⟩)
    refine JS.norm ?_
    refine S_q (Ent.re [2] rfl) rfl (Q_move rfl) rfl rfl rfl ?_
    refine S_q (Ent.re [2] rfl) rfl (Q_move rfl) rfl rfl rfl ?_
    refine S_q (Ent.re [2] rfl) rfl ((Q_lss rfl rfl).as (v' := .bool false) (congrArg Value.bool (decide_eq_false h1))) rfl rfl rfl ?_
    first
      | refine S_q (Ent.re [2] rfl) rfl (Q_pickT rfl rfl) rfl rfl rfl ?_
      | refine S_q (Ent.re [2] rfl) rfl (Q_pickF rfl rfl) rfl rfl rfl ?_
      | refine S_q (Ent.re [2] rfl) rfl (Q_pickB rfl rfl rfl) rfl rfl rfl ?_
    refine S_q (Ent.re [2] rfl) rfl (Q_move rfl) rfl rfl rfl ?_
    refine S_q (Ent.re [2] rfl) rfl (Q_move rfl) rfl rfl rfl ?_
    first
      | refine S_q (Ent.re [2] rfl) rfl (Q_ldA 0 rfl rfl rfl) rfl rfl rfl ?_
      | refine S_q (Ent.re [2] rfl) rfl (Q_ldA 1 rfl rfl rfl) rfl rfl rfl ?_
      | refine S_q (Ent.re [2] rfl) rfl (Q_ldA 2 rfl rfl rfl) rfl rfl rfl ?_
      | refine S_q (Ent.re [2] rfl) rfl (Q_ldA 3 rfl rfl rfl) rfl rfl rfl ?_
      | refine S_q (Ent.re [2] rfl) rfl (Q_ldA 4 rfl rfl rfl) rfl rfl rfl ?_
      | refine S_q (Ent.re [2] rfl) rfl (Q_ldA 5 rfl rfl rfl) rfl rfl rfl ?_
      | refine S_q (Ent.re [2] rfl) rfl (Q_ldA 6 rfl rfl rfl) rfl rfl rfl ?_
      | refine S_q (Ent.re [2] rfl) rfl (Q_ldA 7 rfl rfl rfl) rfl rfl rfl ?_
      | refine S_q (Ent.re [2] rfl) rfl (Q_ldA 8 rfl rfl rfl) rfl rfl rfl ?_
      | refine S_q (Ent.re [2] rfl) rfl (Q_ldA 9 rfl rfl rfl) rfl rfl rfl ?_
    first
      | refine S_q (Ent.re [2] rfl) rfl (Q_fa0 rfl) rfl rfl rfl ?_
      | refine S_q (Ent.re [2] rfl) rfl (Q_fa rfl rfl) rfl rfl rfl ?_
      | refine S_q (Ent.re [2] rfl) rfl (Q_pfa rfl) rfl rfl rfl ?_
    first
      | refine S_q (Ent.re [2] rfl) rfl (Q_ld 0 rfl rfl rfl rfl) rfl rfl rfl ?_
      | refine S_q (Ent.re [2] rfl) rfl (Q_ld 1 rfl rfl rfl rfl) rfl rfl rfl ?_
      | refine S_q (Ent.re [2] rfl) rfl (Q_ld 2 rfl rfl rfl rfl) rfl rfl rfl ?_
      | refine S_q (Ent.re [2] rfl) rfl (Q_ld 3 rfl rfl rfl rfl) rfl rfl rfl ?_
      | refine S_q (Ent.re [2] rfl) rfl (Q_ld 4 rfl rfl rfl rfl) rfl rfl rfl ?_
      | refine S_q (Ent.re [2] rfl) rfl (Q_ld 5 rfl rfl rfl rfl) rfl rfl rfl ?_
      | refine S_q (Ent.re [2] rfl) rfl (Q_ld 6 rfl rfl rfl rfl) rfl rfl rfl ?_
      | refine S_q (Ent.re [2] rfl) rfl (Q_ld 7 rfl rfl rfl rfl) rfl rfl rfl ?_
      | refine S_q (Ent.re [2] rfl) rfl (Q_ld 8 rfl rfl rfl rfl) rfl rfl rfl ?_
      | refine S_q (Ent.re [2] rfl) rfl (Q_ld 9 rfl rfl rfl rfl) rfl rfl rfl ?_
    refine S_o rfl rfl rfl rfl (O_call [0] [1,2,3] hbs rfl rfl ?_)
    (rintro _ _ ⟨rfl, rfl⟩; refine ⟨_, fun _ => ⟨Ent.reN [2] rfl, Ent.refl _⟩, ?_⟩)
    refine JS.norm ?_
    refine S_q (Ent.re [2] rfl) rfl (Q_sub rfl rfl (by first | exact IntWalk.i64_in _ (by omega) | exact IntWalk.u8_in _ (by omega) | exact IntWalk.u32_in _ (by omega) | exact IntWalk.u64_in _ (by omega) | rfl)) rfl rfl rfl ?_
    refine S_q (Ent.re [2] rfl) rfl ((Q_geq rfl rfl).as (v' := .bool false) (congrArg Value.bool (decide_eq_false h2))) rfl rfl rfl ?_
    first
      | refine S_q (Ent.re [2] rfl) rfl (Q_pickT rfl rfl) rfl rfl rfl ?_
      | refine S_q (Ent.re [2] rfl) rfl (Q_pickF rfl rfl) rfl rfl rfl ?_
      | refine S_q (Ent.re [2] rfl) rfl (Q_pickB rfl rfl rfl) rfl rfl rfl ?_
    refine S_nil ?_
    repeat first
      | refine J_seq ?_
      | refine seqQ_normal ?_
      | refine J_condT rfl ?_
      | refine J_condF rfl ?_
      | refine J_block ?_
      | refine blockQ_normal ?_
      | refine J_exit ?_
      | refine seqQ_exit ?_
      | refine blockQ_hit ?_
      | refine blockQ_miss rfl ?_
      | refine J_skip ?_
      | refine J_ret ?_
      | refine seqQ_ret ?_
      | refine blockQ_ret ?_
      | refine loopQ_exit ?_
      | refine loopQ_ret ?_
      | refine J_label ?_
      | refine J_scope ?_
      | refine scopeQ_normal ?_
      | refine scopeQ_exit ?_
      | refine scopeQ_ret ?_
    refine J.ent (Ent.mk fun _ _ h => (h.lay_nil tZ true : Sat _ _ (slc tZ true SV.nil [] :: _))) ?_
    repeat first
      | refine J_seq ?_
      | refine seqQ_normal ?_
      | refine J_condT rfl ?_
      | refine J_condF rfl ?_
      | refine J_block ?_
      | refine blockQ_normal ?_
      | refine J_exit ?_
      | refine seqQ_exit ?_
      | refine blockQ_hit ?_
      | refine blockQ_miss rfl ?_
      | refine J_skip ?_
      | refine J_ret ?_
      | refine seqQ_ret ?_
      | refine blockQ_ret ?_
      | refine loopQ_exit ?_
      | refine loopQ_ret ?_
      | refine J_label ?_
      | refine J_scope ?_
      | refine scopeQ_normal ?_
      | refine scopeQ_exit ?_
      | refine scopeQ_ret ?_
    refine J_region ?_
    first
      | refine L_q (Q_fa0 rfl) rfl rfl rfl ?_
      | refine L_q (Q_fa rfl rfl) rfl rfl rfl ?_
      | refine L_q (Q_pfa rfl) rfl rfl rfl ?_
    first
      | refine L_q (Q_ld 0 rfl rfl rfl rfl) rfl rfl rfl ?_
      | refine L_q (Q_ld 1 rfl rfl rfl rfl) rfl rfl rfl ?_
      | refine L_q (Q_ld 2 rfl rfl rfl rfl) rfl rfl rfl ?_
      | refine L_q (Q_ld 3 rfl rfl rfl rfl) rfl rfl rfl ?_
      | refine L_q (Q_ld 4 rfl rfl rfl rfl) rfl rfl rfl ?_
      | refine L_q (Q_ld 5 rfl rfl rfl rfl) rfl rfl rfl ?_
      | refine L_q (Q_ld 6 rfl rfl rfl rfl) rfl rfl rfl ?_
      | refine L_q (Q_ld 7 rfl rfl rfl rfl) rfl rfl rfl ?_
      | refine L_q (Q_ld 8 rfl rfl rfl rfl) rfl rfl rfl ?_
      | refine L_q (Q_ld 9 rfl rfl rfl rfl) rfl rfl rfl ?_
    refine L_o rfl rfl rfl (O_app (τ := tZ) 0 rfl (fun w h => h.rd 1 rfl) rfl rfl rfl rfl (by simp only [List.length_nil]; omega) (by decide) (fun X1 => ?_))
    refine JL.norm ?_
    refine L_q (Q_move rfl) rfl rfl rfl ?_
    refine L_o rfl rfl rfl (O_litP (τ := tZ) (m := 1) (sz := 1) [z] rfl rfl rfl rfl rfl rfl (by decide) (fun X2 => ?_))
    refine JL.norm ?_
    refine L_o rfl rfl rfl (O_app (τ := tZ) 1 rfl (fun w h => h.rd 0 rfl) rfl rfl rfl rfl (by simp only [List.nil_append, List.length_singleton]; omega) (by decide) (fun X3 => ?_))
    refine JL.norm ?_
    first
      | refine L_q (Q_fa0 rfl) rfl rfl rfl ?_
      | refine L_q (Q_fa rfl rfl) rfl rfl rfl ?_
      | refine L_q (Q_pfa rfl) rfl rfl rfl ?_
    first
      | refine L_s rfl rfl (O_st1 0 rfl rfl rfl rfl rfl ?_)
      | refine L_s rfl rfl (O_st1 1 rfl rfl rfl rfl rfl ?_)
      | refine L_s rfl rfl (O_st1 2 rfl rfl rfl rfl rfl ?_)
      | refine L_s rfl rfl (O_st1 3 rfl rfl rfl rfl rfl ?_)
      | refine L_s rfl rfl (O_st1 4 rfl rfl rfl rfl rfl ?_)
      | refine L_s rfl rfl (O_st1 5 rfl rfl rfl rfl rfl ?_)
      | refine L_s rfl rfl (O_st1 6 rfl rfl rfl rfl rfl ?_)
      | refine L_s rfl rfl (O_st1 7 rfl rfl rfl rfl rfl ?_)
      | refine L_s rfl rfl (O_st1 8 rfl rfl rfl rfl rfl ?_)
      | refine L_s rfl rfl (O_st1 9 rfl rfl rfl rfl rfl ?_)
    refine JL.norm ?_
    refine JL_nil ?_
    repeat first
      | refine J_seq ?_
      | refine seqQ_normal ?_
      | refine J_condT rfl ?_
      | refine J_condF rfl ?_
      | refine J_block ?_
      | refine blockQ_normal ?_
      | refine J_exit ?_
      | refine seqQ_exit ?_
      | refine blockQ_hit ?_
      | refine blockQ_miss rfl ?_
      | refine J_skip ?_
      | refine J_ret ?_
      | refine seqQ_ret ?_
      | refine blockQ_ret ?_
      | refine loopQ_exit ?_
      | refine loopQ_ret ?_
      | refine J_label ?_
      | refine J_scope ?_
      | refine scopeQ_normal ?_
      | refine scopeQ_exit ?_
      | refine scopeQ_ret ?_
    rw [List.nil_append]
    repeat first
      | refine J_seq ?_
      | refine seqQ_normal ?_
      | refine J_condT rfl ?_
      | refine J_condF rfl ?_
      | refine J_block ?_
      | refine blockQ_normal ?_
      | refine J_exit ?_
      | refine seqQ_exit ?_
      | refine blockQ_hit ?_
      | refine blockQ_miss rfl ?_
      | refine J_skip ?_
      | refine J_ret ?_
      | refine seqQ_ret ?_
      | refine blockQ_ret ?_
      | refine loopQ_exit ?_
      | refine loopQ_ret ?_
      | refine J_label ?_
      | refine J_scope ?_
      | refine scopeQ_normal ?_
      | refine scopeQ_exit ?_
      | refine scopeQ_ret ?_
    refine J_region ?_
    first
      | refine L_q (Q_ldA 0 rfl rfl rfl) rfl rfl rfl ?_
      | refine L_q (Q_ldA 1 rfl rfl rfl) rfl rfl rfl ?_
      | refine L_q (Q_ldA 2 rfl rfl rfl) rfl rfl rfl ?_
      | refine L_q (Q_ldA 3 rfl rfl rfl) rfl rfl rfl ?_
      | refine L_q (Q_ldA 4 rfl rfl rfl) rfl rfl rfl ?_
      | refine L_q (Q_ldA 5 rfl rfl rfl) rfl rfl rfl ?_
      | refine L_q (Q_ldA 6 rfl rfl rfl) rfl rfl rfl ?_
      | refine L_q (Q_ldA 7 rfl rfl rfl) rfl rfl rfl ?_
      | refine L_q (Q_ldA 8 rfl rfl rfl) rfl rfl rfl ?_
      | refine L_q (Q_ldA 9 rfl rfl rfl) rfl rfl rfl ?_
    first
      | refine L_s rfl rfl (O_stW 0 rfl rfl rfl rfl ?_)
      | refine L_s rfl rfl (O_stW 1 rfl rfl rfl rfl ?_)
      | refine L_s rfl rfl (O_stW 2 rfl rfl rfl rfl ?_)
      | refine L_s rfl rfl (O_stW 3 rfl rfl rfl rfl ?_)
      | refine L_s rfl rfl (O_stW 4 rfl rfl rfl rfl ?_)
      | refine L_s rfl rfl (O_stW 5 rfl rfl rfl rfl ?_)
      | refine L_s rfl rfl (O_stW 6 rfl rfl rfl rfl ?_)
      | refine L_s rfl rfl (O_stW 7 rfl rfl rfl rfl ?_)
      | refine L_s rfl rfl (O_stW 8 rfl rfl rfl rfl ?_)
      | refine L_s rfl rfl (O_stW 9 rfl rfl rfl rfl ?_)
    refine JL.norm ?_
    refine L_q (Q_assign rfl) rfl rfl rfl ?_
    refine JL_nil ?_
    repeat first
      | refine J_seq ?_
      | refine seqQ_normal ?_
      | refine J_condT rfl ?_
      | refine J_condF rfl ?_
      | refine J_block ?_
      | refine blockQ_normal ?_
      | refine J_exit ?_
      | refine seqQ_exit ?_
      | refine blockQ_hit ?_
      | refine blockQ_miss rfl ?_
      | refine J_skip ?_
      | refine J_ret ?_
      | refine seqQ_ret ?_
      | refine blockQ_ret ?_
      | refine loopQ_exit ?_
      | refine loopQ_ret ?_
      | refine J_label ?_
      | refine J_scope ?_
      | refine scopeQ_normal ?_
      | refine scopeQ_exit ?_
      | refine scopeQ_ret ?_
    exact retQ_ret _ [slc tZ true X3 (L ++ [z])] (.cons (RV_cell 3 rfl rfl rfl rfl) (.cons (RV_tmp rfl) .nil)) ⟨X3, rfl, rfl⟩ (Ent.re [1, 5] rfl)
end Go.Proofs
