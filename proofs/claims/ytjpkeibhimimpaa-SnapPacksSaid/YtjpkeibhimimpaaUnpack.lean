/- Pairs unpacked, walked. -/
import Derived.Test.YtjpkeibhimimpaaUnpP
set_option autoImplicit false
namespace Go.Proofs
open Go.SL
attribute [local irreducible] J JL QOp JOp seqQ blockQ loopQ retQ slc cel hex star pur stars Does RV Ent pAt
theorem unpack_ok (E : World) (s : List UInt8) (hs : s.length ≤ 100000000) : Does Try.prog E 13 [str s] [] fun v L => ∃ S : SV, v = .tuple #[S.v, .int .i64 (unpE s)] ∧ L = [slc tP true S (unpL s)] := by
  refine Does.of Try.func13 rfl Try.ntmps13 rfl rfl fun F => ?_
  refine J.norm ?_
  repeat first
    | refine J_seq ?_
    | refine seqQ_normal ?_
    | refine J_condT rfl ?_
    | refine J_condF rfl ?_
    | refine J_block ?_
    | refine blockQ_normal ?_
    | refine J_exit ?_
    | refine seqQ_exit ?_
    | refine blockQ_hit ?_
    | refine blockQ_miss rfl ?_
    | refine J_skip ?_
    | refine J_ret ?_
    | refine seqQ_ret ?_
    | refine blockQ_ret ?_
    | refine loopQ_exit ?_
    | refine loopQ_ret ?_
    | refine J_label ?_
  refine J_region ?_
  refine L_q (Q_assign rfl) rfl rfl rfl ?_
  refine L_q (Q_assign rfl) rfl rfl rfl ?_
  refine JL_nil ?_
  repeat first
    | refine J_seq ?_
    | refine seqQ_normal ?_
    | refine J_condT rfl ?_
    | refine J_condF rfl ?_
    | refine J_block ?_
    | refine blockQ_normal ?_
    | refine J_exit ?_
    | refine seqQ_exit ?_
    | refine blockQ_hit ?_
    | refine blockQ_miss rfl ?_
    | refine J_skip ?_
    | refine J_ret ?_
    | refine seqQ_ret ?_
    | refine blockQ_ret ?_
    | refine loopQ_exit ?_
    | refine loopQ_ret ?_
    | refine J_label ?_
  repeat first
    | refine J_seq ?_
    | refine seqQ_normal ?_
    | refine J_condT rfl ?_
    | refine J_condF rfl ?_
    | refine J_block ?_
    | refine blockQ_normal ?_
    | refine J_exit ?_
    | refine seqQ_exit ?_
    | refine blockQ_hit ?_
    | refine blockQ_miss rfl ?_
    | refine J_skip ?_
    | refine J_ret ?_
    | refine seqQ_ret ?_
    | refine blockQ_ret ?_
    | refine loopQ_exit ?_
    | refine loopQ_ret ?_
    | refine J_label ?_
  refine J_region ?_
  refine L_q (Q_move rfl) rfl rfl rfl ?_
  refine L_o rfl rfl rfl (O_call [] [0] (wread_ok E s hs) rfl rfl ?_)
  rintro _ _ ⟨T, rfl, rfl⟩
  refine JL.norm ?_
  refine L_q (Q_move rfl) rfl rfl rfl ?_
  refine L_q (Q_extract (v := T.v) rfl rfl) rfl rfl rfl ?_
  refine L_q (Q_extract (v := .int .i64 (readE s)) rfl rfl) rfl rfl rfl ?_
  refine L_q (Q_assign rfl) rfl rfl rfl ?_
  refine L_q (Q_assign rfl) rfl rfl rfl ?_
  refine JL_nil ?_
  repeat first
    | refine J_seq ?_
    | refine seqQ_normal ?_
    | refine J_condT rfl ?_
    | refine J_condF rfl ?_
    | refine J_block ?_
    | refine blockQ_normal ?_
    | refine J_exit ?_
    | refine seqQ_exit ?_
    | refine blockQ_hit ?_
    | refine blockQ_miss rfl ?_
    | refine J_skip ?_
    | refine J_ret ?_
    | refine seqQ_ret ?_
    | refine blockQ_ret ?_
    | refine loopQ_exit ?_
    | refine loopQ_ret ?_
    | refine J_label ?_
  have hlen := readL_len s
  cases hx : readT s with
  | none =>
    have e1 : readE s = 3 := by unfold readE; rw [hx]; rfl
    have e2 : unpE s = 3 := by unfold unpE; rw [unpT_none hx]; rfl
    have e3 : unpL s = [] := by unfold unpL; rw [unpT_none hx]; rfl
    rw [e1, e2, e3]
    repeat first
      | refine J_seq ?_
      | refine seqQ_normal ?_
      | refine J_condT rfl ?_
      | refine J_condF rfl ?_
      | refine J_block ?_
      | refine blockQ_normal ?_
      | refine J_exit ?_
      | refine seqQ_exit ?_
      | refine blockQ_hit ?_
      | refine blockQ_miss rfl ?_
      | refine J_skip ?_
      | refine J_ret ?_
      | refine seqQ_ret ?_
      | refine blockQ_ret ?_
      | refine loopQ_exit ?_
      | refine loopQ_ret ?_
      | refine J_label ?_
    refine J_region ?_
    refine L_q (Q_move rfl) rfl rfl rfl ?_
    refine L_q ((Q_neq rfl rfl).as (v' := .bool true) rfl) rfl rfl rfl ?_
    refine L_q (Q_move rfl) rfl rfl rfl ?_
    refine L_n rfl rfl rfl ?_
    refine L_n rfl rfl rfl ?_
    refine L_n rfl rfl rfl ?_
    refine L_n rfl rfl rfl ?_
    first
      | refine L_q (Q_pickT rfl rfl) rfl rfl rfl ?_
      | refine L_q (Q_pickF rfl rfl) rfl rfl rfl ?_
      | refine L_q (Q_pickB rfl rfl rfl) rfl rfl rfl ?_
    refine JL_nil ?_
    repeat first
      | refine J_seq ?_
      | refine seqQ_normal ?_
      | refine J_condT rfl ?_
      | refine J_condF rfl ?_
      | refine J_block ?_
      | refine blockQ_normal ?_
      | refine J_exit ?_
      | refine seqQ_exit ?_
      | refine blockQ_hit ?_
      | refine blockQ_miss rfl ?_
      | refine J_skip ?_
      | refine J_ret ?_
      | refine seqQ_ret ?_
      | refine blockQ_ret ?_
      | refine loopQ_exit ?_
      | refine loopQ_ret ?_
      | refine J_label ?_
    repeat first
      | refine J_seq ?_
      | refine seqQ_normal ?_
      | refine J_condT rfl ?_
      | refine J_condF rfl ?_
      | refine J_block ?_
      | refine blockQ_normal ?_
      | refine J_exit ?_
      | refine seqQ_exit ?_
      | refine blockQ_hit ?_
      | refine blockQ_miss rfl ?_
      | refine J_skip ?_
      | refine J_ret ?_
      | refine seqQ_ret ?_
      | refine blockQ_ret ?_
      | refine loopQ_exit ?_
      | refine loopQ_ret ?_
      | refine J_label ?_
    refine J_region ?_
    refine L_q (Q_assign rfl) rfl rfl rfl ?_
    refine L_q (Q_assign rfl) rfl rfl rfl ?_
    refine JL_nil ?_
    repeat first
      | refine J_seq ?_
      | refine seqQ_normal ?_
      | refine J_condT rfl ?_
      | refine J_condF rfl ?_
      | refine J_block ?_
      | refine blockQ_normal ?_
      | refine J_exit ?_
      | refine seqQ_exit ?_
      | refine blockQ_hit ?_
      | refine blockQ_miss rfl ?_
      | refine J_skip ?_
      | refine J_ret ?_
      | refine seqQ_ret ?_
      | refine blockQ_ret ?_
      | refine loopQ_exit ?_
      | refine loopQ_ret ?_
      | refine J_label ?_
    refine retQ_ret _ [slc tP true SV.nil []] (.cons (RV_tmp rfl) (.cons (RV_tmp rfl) .nil)) ⟨SV.nil, rfl, rfl⟩ ?_
    exact (Ent.mk fun _ _ h => (h.lay_nil tP true : Sat _ _ (slc tP true SV.nil [] :: _))).trans (Ent.re [0, 2] rfl)
  | some t0 =>
    have e1 : readE s = 0 := by unfold readE; rw [hx]; rfl
    have e4 : readL s = t0 := by unfold readL; rw [hx]; rfl
    rw [e1, e4] 
    rw [e4] at hlen
    repeat first
      | refine J_seq ?_
      | refine seqQ_normal ?_
      | refine J_condT rfl ?_
      | refine J_condF rfl ?_
      | refine J_block ?_
      | refine blockQ_normal ?_
      | refine J_exit ?_
      | refine seqQ_exit ?_
      | refine blockQ_hit ?_
      | refine blockQ_miss rfl ?_
      | refine J_skip ?_
      | refine J_ret ?_
      | refine seqQ_ret ?_
      | refine blockQ_ret ?_
      | refine loopQ_exit ?_
      | refine loopQ_ret ?_
      | refine J_label ?_
    refine J_region ?_
    refine L_q (Q_move rfl) rfl rfl rfl ?_
    refine L_q ((Q_neq rfl rfl).as (v' := .bool false) rfl) rfl rfl rfl ?_
    refine L_q (Q_move rfl) rfl rfl rfl ?_
    refine L_q (Q_move rfl) rfl rfl rfl ?_
    first
      | refine L_q (Q_lenAt 0 rfl rfl) rfl rfl rfl ?_
      | refine L_q (Q_lenAt 1 rfl rfl) rfl rfl rfl ?_
      | refine L_q (Q_lenAt 2 rfl rfl) rfl rfl rfl ?_
      | refine L_q (Q_lenAt 3 rfl rfl) rfl rfl rfl ?_
      | refine L_q (Q_lenAt 4 rfl rfl) rfl rfl rfl ?_
    refine L_q (Q_rem rfl rfl (by decide) (by first | exact IntWalk.rem_in _ _ (by omega) | rfl)) rfl rfl rfl ?_
    refine L_q (Q_eql rfl rfl) rfl rfl rfl ?_
    first
      | refine L_q (Q_pickT rfl rfl) rfl rfl rfl ?_
      | refine L_q (Q_pickF rfl rfl) rfl rfl rfl ?_
      | refine L_q (Q_pickB rfl rfl rfl) rfl rfl rfl ?_
    refine JL_nil ?_
    repeat first
      | refine J_seq ?_
      | refine seqQ_normal ?_
      | refine J_condT rfl ?_
      | refine J_condF rfl ?_
      | refine J_block ?_
      | refine blockQ_normal ?_
      | refine J_exit ?_
      | refine seqQ_exit ?_
      | refine blockQ_hit ?_
      | refine blockQ_miss rfl ?_
      | refine J_skip ?_
      | refine J_ret ?_
      | refine seqQ_ret ?_
      | refine blockQ_ret ?_
      | refine loopQ_exit ?_
      | refine loopQ_ret ?_
      | refine J_label ?_
    refine J_condD rfl (fun h => ?_) (fun h => ?_)
    · have ho : t0.length % 2 = 1 := by omega
      have e5 : unpT s = none := by rw [unpT_some hx]; exact unp_odd _ _ _ (Nat.le_refl _) ho
      have e2 : unpE s = 3 := by unfold unpE; rw [e5]; rfl
      have e3 : unpL s = [] := by unfold unpL; rw [e5]; rfl
      rw [e2, e3]
      repeat first
        | refine J_seq ?_
        | refine seqQ_normal ?_
        | refine J_condT rfl ?_
        | refine J_condF rfl ?_
        | refine J_block ?_
        | refine blockQ_normal ?_
        | refine J_exit ?_
        | refine seqQ_exit ?_
        | refine blockQ_hit ?_
        | refine blockQ_miss rfl ?_
        | refine J_skip ?_
        | refine J_ret ?_
        | refine seqQ_ret ?_
        | refine blockQ_ret ?_
        | refine loopQ_exit ?_
        | refine loopQ_ret ?_
        | refine J_label ?_
      refine J_region ?_
      refine L_q (Q_assign rfl) rfl rfl rfl ?_
      refine L_q (Q_assign rfl) rfl rfl rfl ?_
      refine JL_nil ?_
      repeat first
        | refine J_seq ?_
        | refine seqQ_normal ?_
        | refine J_condT rfl ?_
        | refine J_condF rfl ?_
        | refine J_block ?_
        | refine blockQ_normal ?_
        | refine J_exit ?_
        | refine seqQ_exit ?_
        | refine blockQ_hit ?_
        | refine blockQ_miss rfl ?_
        | refine J_skip ?_
        | refine J_ret ?_
        | refine seqQ_ret ?_
        | refine blockQ_ret ?_
        | refine loopQ_exit ?_
        | refine loopQ_ret ?_
        | refine J_label ?_
      refine retQ_ret _ [slc tP true SV.nil []] (.cons (RV_tmp rfl) (.cons (RV_tmp rfl) .nil)) ⟨SV.nil, rfl, rfl⟩ ?_
      exact (Ent.mk fun _ _ h => (h.lay_nil tP true : Sat _ _ (slc tP true SV.nil [] :: _))).trans (Ent.re [0, 2] rfl)
    have ho : t0.length % 2 = 0 := by omega
    repeat first
      | refine J_seq ?_
      | refine seqQ_normal ?_
      | refine J_condT rfl ?_
      | refine J_condF rfl ?_
      | refine J_block ?_
      | refine blockQ_normal ?_
      | refine J_exit ?_
      | refine seqQ_exit ?_
      | refine blockQ_hit ?_
      | refine blockQ_miss rfl ?_
      | refine J_skip ?_
      | refine J_ret ?_
      | refine seqQ_ret ?_
      | refine blockQ_ret ?_
      | refine loopQ_exit ?_
      | refine loopQ_ret ?_
      | refine J_label ?_
    refine J_region ?_
    refine L_q (Q_assign rfl) rfl rfl rfl ?_
    refine JL_nil ?_
    repeat first
      | refine J_seq ?_
      | refine seqQ_normal ?_
      | refine J_condT rfl ?_
      | refine J_condF rfl ?_
      | refine J_block ?_
      | refine blockQ_normal ?_
      | refine J_exit ?_
      | refine seqQ_exit ?_
      | refine blockQ_hit ?_
      | refine blockQ_miss rfl ?_
      | refine J_skip ?_
      | refine J_ret ?_
      | refine seqQ_ret ?_
      | refine blockQ_ret ?_
      | refine loopQ_exit ?_
      | refine loopQ_ret ?_
      | refine J_label ?_
    refine J.ent (Ent.mk fun _ _ h => (h.lay_nil tP true : Sat _ _ (slc tP true SV.nil [] :: _))) ?_
    refine J_loop (fun i : List Pr × SV × List (List UInt8) × SV => unp none t0 = (unp (lastK i.1) i.2.2.1).map (i.1 ++ ·) ∧ i.2.2.1.length % 2 = 0 ∧ 2 * i.1.length + i.2.2.1.length = t0.length) (fun i => [(4, i.2.2.2.v), (6, i.2.1.v)])
      (fun i => [slc tP true i.2.1 i.1, slc tS true i.2.2.2 i.2.2.1, F]) (fun i => i.2.2.1.length) ([], SV.nil, t0, T) ⟨by simp [lastK], ho, by simp⟩ ⟨rfl, rfl, trivial⟩ (Ent.refl _) ?_
    rintro ⟨out, B, t, U⟩ ⟨h1, h2, h3⟩
    dsimp only at h1 h2 h3 ⊢
    repeat first
      | refine J_seq ?_
      | refine seqQ_normal ?_
      | refine J_condT rfl ?_
      | refine J_condF rfl ?_
      | refine J_block ?_
      | refine blockQ_normal ?_
      | refine J_exit ?_
      | refine seqQ_exit ?_
      | refine blockQ_hit ?_
      | refine blockQ_miss rfl ?_
      | refine J_skip ?_
      | refine J_ret ?_
      | refine seqQ_ret ?_
      | refine blockQ_ret ?_
      | refine loopQ_exit ?_
      | refine loopQ_ret ?_
      | refine J_label ?_
    refine J_region ?_
    refine L_q (Q_move rfl) rfl rfl rfl ?_
    first
      | refine L_q (Q_lenAt 0 rfl rfl) rfl rfl rfl ?_
      | refine L_q (Q_lenAt 1 rfl rfl) rfl rfl rfl ?_
      | refine L_q (Q_lenAt 2 rfl rfl) rfl rfl rfl ?_
      | refine L_q (Q_lenAt 3 rfl rfl) rfl rfl rfl ?_
      | refine L_q (Q_lenAt 4 rfl rfl) rfl rfl rfl ?_
    refine L_q (Q_gtr rfl rfl) rfl rfl rfl ?_
    refine JL_nil ?_
    repeat first
      | refine J_seq ?_
      | refine seqQ_normal ?_
      | refine J_condT rfl ?_
      | refine J_condF rfl ?_
      | refine J_block ?_
      | refine blockQ_normal ?_
      | refine J_exit ?_
      | refine seqQ_exit ?_
      | refine blockQ_hit ?_
      | refine blockQ_miss rfl ?_
      | refine J_skip ?_
      | refine J_ret ?_
      | refine seqQ_ret ?_
      | refine blockQ_ret ?_
      | refine loopQ_exit ?_
      | refine loopQ_ret ?_
      | refine J_label ?_
    refine J_condD rfl (fun h4 => ?_) (fun h4 => ?_)
    · obtain ⟨k, v, r, rfl⟩ : ∃ k v r, t = k :: v :: r := by
        match t, h2, h4 with
        | k :: v :: r, _, _ => exact ⟨k, v, r, rfl⟩
      repeat first
        | refine J_seq ?_
        | refine seqQ_normal ?_
        | refine J_condT rfl ?_
        | refine J_condF rfl ?_
        | refine J_block ?_
        | refine blockQ_normal ?_
        | refine J_exit ?_
        | refine seqQ_exit ?_
        | refine blockQ_hit ?_
        | refine blockQ_miss rfl ?_
        | refine J_skip ?_
        | refine J_ret ?_
        | refine seqQ_ret ?_
        | refine blockQ_ret ?_
        | refine loopQ_exit ?_
        | refine loopQ_ret ?_
        | refine J_label ?_
      refine J_region ?_
      refine L_q (Q_move rfl) rfl rfl rfl ?_
      first
        | refine L_q (Q_lenAt 0 rfl rfl) rfl rfl rfl ?_
        | refine L_q (Q_lenAt 1 rfl rfl) rfl rfl rfl ?_
        | refine L_q (Q_lenAt 2 rfl rfl) rfl rfl rfl ?_
        | refine L_q (Q_lenAt 3 rfl rfl) rfl rfl rfl ?_
        | refine L_q (Q_lenAt 4 rfl rfl) rfl rfl rfl ?_
      refine L_q (Q_assign rfl) rfl rfl rfl ?_
      refine JL_nil ?_
      repeat first
        | refine J_seq ?_
        | refine seqQ_normal ?_
        | refine J_condT rfl ?_
        | refine J_condF rfl ?_
        | refine J_block ?_
        | refine blockQ_normal ?_
        | refine J_exit ?_
        | refine seqQ_exit ?_
        | refine blockQ_hit ?_
        | refine blockQ_miss rfl ?_
        | refine J_skip ?_
        | refine J_ret ?_
        | refine seqQ_ret ?_
        | refine blockQ_ret ?_
        | refine loopQ_exit ?_
        | refine loopQ_ret ?_
        | refine J_label ?_
      cases hb : badK (lastK out) k with
      | true =>
        have e5 : unpT s = none := by rw [unpT_some hx, h1]; simp [unp, hb]
        have e2 : unpE s = 3 := by unfold unpE; rw [e5]; rfl
        have e3 : unpL s = [] := by unfold unpL; rw [e5]; rfl
        rw [e2, e3]
        match hout : out.length with
        | 0 => rw [List.eq_nil_of_length_eq_zero hout] at hb; cases hb
        | j + 1 =>
          have hj : j < out.length := by omega
          have hl := lastK_at out j hout
          have hc : Op.bytesLess out[j].1 k = false := by rw [hl] at hb; simpa [badK] using hb
          repeat first
            | refine J_seq ?_
            | refine seqQ_normal ?_
            | refine J_condT rfl ?_
            | refine J_condF rfl ?_
            | refine J_block ?_
            | refine blockQ_normal ?_
            | refine J_exit ?_
            | refine seqQ_exit ?_
            | refine blockQ_hit ?_
            | refine blockQ_miss rfl ?_
            | refine J_skip ?_
            | refine J_ret ?_
            | refine seqQ_ret ?_
            | refine blockQ_ret ?_
            | refine loopQ_exit ?_
            | refine loopQ_ret ?_
            | refine J_label ?_
          refine J_drawH [0,1] [0, 1, 2, 3, 4, 5, 6, 7, 8, 9, 10, 11, 12, 13] (.quiet 0 (.quiet 1 (.quiet 2 (.quiet 3 (.quiet 4 (.quiet 5 (.quiet 6 (.quiet 7 (.quiet 8 (.quiet 9 (.quiet 10 (.quiet 11 (.quiet 12 (.quiet 13 .done)))))))))))))) Try.mixed (by kernel_rfl) (by kernel_rfl) (by repeat (first | exact retQ_noP | refine seqQ_noP ?_ | refine blockQ_noP ?_ | refine loopQ_noP ?_)) ?_
          refine S_q (Ent.re [0,1] rfl) rfl (Q_move rfl) rfl rfl rfl ?_
          refine S_q (Ent.re [0,1] rfl) rfl ((Q_gtr rfl rfl).as (v' := .bool true) (congrArg Value.bool (decide_eq_true (by omega)))) rfl rfl rfl ?_
          refine S_q (Ent.re [0,1] rfl) rfl (Q_move rfl) rfl rfl rfl ?_
          refine S_q (Ent.re [0,1] rfl) rfl (Q_move rfl) rfl rfl rfl ?_
          refine S_q (Ent.re [0,1] rfl) rfl (Q_move rfl) rfl rfl rfl ?_
          refine S_q (Ent.re [0,1] rfl) rfl (Q_sub rfl rfl (by first | exact IntWalk.i64_in _ (by omega) | exact IntWalk.u8_in _ (by omega) | exact IntWalk.u32_in _ (by omega) | exact IntWalk.u64_in _ (by omega) | rfl)) rfl rfl rfl ?_
          refine S_q (Ent.re [0,1] rfl) rfl (Q_ixAt 0 j rfl rfl rfl (by omega) hj rfl) rfl rfl rfl ?_
          refine S_q (Ent.re [0,1] rfl) rfl (Q_pfa rfl) rfl rfl rfl ?_
          refine S_q (Ent.re [0,1] rfl) rfl (Q_ldEAt 0 j 0 (v := str out[j].1) rfl rfl rfl rfl hj (by decide) rfl) rfl rfl rfl ?_
          refine S_q (Ent.re [0,1] rfl) rfl (Q_move rfl) rfl rfl rfl ?_
          refine S_q (Ent.re [0,1] rfl) rfl (Q_ixAt 1 0 rfl rfl rfl rfl (by simp) rfl) rfl rfl rfl ?_
          refine S_q (Ent.re [0,1] rfl) rfl (Q_ldEAt 1 0 0 (v := str k) rfl rfl rfl rfl (by simp) (by decide) rfl) rfl rfl rfl ?_
          refine S_q (Ent.re [0,1] rfl) rfl ((Q_sgeq rfl rfl).as (v' := .bool true) (by rw [hc]; rfl)) rfl rfl rfl ?_
          first
            | refine S_q (Ent.re [0,1] rfl) rfl (Q_pickT rfl rfl) rfl rfl rfl ?_
            | refine S_q (Ent.re [0,1] rfl) rfl (Q_pickF rfl rfl) rfl rfl rfl ?_
            | refine S_q (Ent.re [0,1] rfl) rfl (Q_pickB rfl rfl rfl) rfl rfl rfl ?_
          refine S_nil ?_
          repeat first
            | refine J_seq ?_
            | refine seqQ_normal ?_
            | refine J_condT rfl ?_
            | refine J_condF rfl ?_
            | refine J_block ?_
            | refine blockQ_normal ?_
            | refine J_exit ?_
            | refine seqQ_exit ?_
            | refine blockQ_hit ?_
            | refine blockQ_miss rfl ?_
            | refine J_skip ?_
            | refine J_ret ?_
            | refine seqQ_ret ?_
            | refine blockQ_ret ?_
            | refine loopQ_exit ?_
            | refine loopQ_ret ?_
            | refine J_label ?_
          repeat first
            | refine J_seq ?_
            | refine seqQ_normal ?_
            | refine J_condT rfl ?_
            | refine J_condF rfl ?_
            | refine J_block ?_
            | refine blockQ_normal ?_
            | refine J_exit ?_
            | refine seqQ_exit ?_
            | refine blockQ_hit ?_
            | refine blockQ_miss rfl ?_
            | refine J_skip ?_
            | refine J_ret ?_
            | refine seqQ_ret ?_
            | refine blockQ_ret ?_
            | refine loopQ_exit ?_
            | refine loopQ_ret ?_
            | refine J_label ?_
          refine J_region ?_
          refine L_q (Q_assign rfl) rfl rfl rfl ?_
          refine L_q (Q_assign rfl) rfl rfl rfl ?_
          refine JL_nil ?_
          repeat first
            | refine J_seq ?_
            | refine seqQ_normal ?_
            | refine J_condT rfl ?_
            | refine J_condF rfl ?_
            | refine J_block ?_
            | refine blockQ_normal ?_
            | refine J_exit ?_
            | refine seqQ_exit ?_
            | refine blockQ_hit ?_
            | refine blockQ_miss rfl ?_
            | refine J_skip ?_
            | refine J_ret ?_
            | refine seqQ_ret ?_
            | refine blockQ_ret ?_
            | refine loopQ_exit ?_
            | refine loopQ_ret ?_
            | refine J_label ?_
          refine retQ_ret _ [slc tP true SV.nil []] (.cons (RV_tmp rfl) (.cons (RV_tmp rfl) .nil)) ⟨SV.nil, rfl, rfl⟩ ?_
          exact (Ent.mk fun _ _ h => (h.lay_nil tP true : Sat _ _ (slc tP true SV.nil [] :: _))).trans (Ent.re [0, 3] rfl)
      | false =>
        have h5 : unp none t0 = (unp (lastK (out ++ [(k, v)])) r).map (out ++ [(k, v)] ++ ·) := by
          rw [h1, lastK_snoc]
          simp only [unp, hb, Bool.false_eq_true, if_false]
          cases unp (some k) r <;> simp
        simp only [List.length_cons] at h2 h3
        match hout : out.length with
        | 0 =>
          repeat first
            | refine J_seq ?_
            | refine seqQ_normal ?_
            | refine J_condT rfl ?_
            | refine J_condF rfl ?_
            | refine J_block ?_
            | refine blockQ_normal ?_
            | refine J_exit ?_
            | refine seqQ_exit ?_
            | refine blockQ_hit ?_
            | refine blockQ_miss rfl ?_
            | refine J_skip ?_
            | refine J_ret ?_
            | refine seqQ_ret ?_
            | refine blockQ_ret ?_
            | refine loopQ_exit ?_
            | refine loopQ_ret ?_
            | refine J_label ?_
          refine J_drawH [0,1] [0, 1, 2, 3, 4, 5, 6, 7, 8, 9, 10, 11, 12, 13] (.quiet 0 (.quiet 1 (.quiet 2 (.quiet 3 (.quiet 4 (.quiet 5 (.quiet 6 (.quiet 7 (.quiet 8 (.quiet 9 (.quiet 10 (.quiet 11 (.quiet 12 (.quiet 13 .done)))))))))))))) Try.mixed (by kernel_rfl) (by kernel_rfl) (by repeat (first | exact retQ_noP | refine seqQ_noP ?_ | refine blockQ_noP ?_ | refine loopQ_noP ?_)) ?_
          refine S_q (Ent.re [0,1] rfl) rfl (Q_move rfl) rfl rfl rfl ?_
          refine S_q (Ent.re [0,1] rfl) rfl ((Q_gtr rfl rfl).as (v' := .bool false) (congrArg Value.bool (decide_eq_false (by omega)))) rfl rfl rfl ?_
          refine S_q (Ent.re [0,1] rfl) rfl (Q_move rfl) rfl rfl rfl ?_
          refine S_n (Ent.re [0,1] rfl) rfl rfl rfl rfl ?_
          refine S_n (Ent.re [0,1] rfl) rfl rfl rfl rfl ?_
          refine S_n (Ent.re [0,1] rfl) rfl rfl rfl rfl ?_
          refine S_n (Ent.re [0,1] rfl) rfl rfl rfl rfl ?_
          refine S_n (Ent.re [0,1] rfl) rfl rfl rfl rfl ?_
          refine S_n (Ent.re [0,1] rfl) rfl rfl rfl rfl ?_
          refine S_n (Ent.re [0,1] rfl) rfl rfl rfl rfl ?_
          refine S_n (Ent.re [0,1] rfl) rfl rfl rfl rfl ?_
          refine S_n (Ent.re [0,1] rfl) rfl rfl rfl rfl ?_
          refine S_n (Ent.re [0,1] rfl) rfl rfl rfl rfl ?_
          first
            | refine S_q (Ent.re [0,1] rfl) rfl (Q_pickT rfl rfl) rfl rfl rfl ?_
            | refine S_q (Ent.re [0,1] rfl) rfl (Q_pickF rfl rfl) rfl rfl rfl ?_
            | refine S_q (Ent.re [0,1] rfl) rfl (Q_pickB rfl rfl rfl) rfl rfl rfl ?_
          refine S_nil ?_
          repeat first
            | refine J_seq ?_
            | refine seqQ_normal ?_
            | refine J_condT rfl ?_
            | refine J_condF rfl ?_
            | refine J_block ?_
            | refine blockQ_normal ?_
            | refine J_exit ?_
            | refine seqQ_exit ?_
            | refine blockQ_hit ?_
            | refine blockQ_miss rfl ?_
            | refine J_skip ?_
            | refine J_ret ?_
            | refine seqQ_ret ?_
            | refine blockQ_ret ?_
            | refine loopQ_exit ?_
            | refine loopQ_ret ?_
            | refine J_label ?_
          repeat first
            | refine J_seq ?_
            | refine seqQ_normal ?_
            | refine J_condT rfl ?_
            | refine J_condF rfl ?_
            | refine J_block ?_
            | refine blockQ_normal ?_
            | refine J_exit ?_
            | refine seqQ_exit ?_
            | refine blockQ_hit ?_
            | refine blockQ_miss rfl ?_
            | refine J_skip ?_
            | refine J_ret ?_
            | refine seqQ_ret ?_
            | refine blockQ_ret ?_
            | refine loopQ_exit ?_
            | refine loopQ_ret ?_
            | refine J_label ?_
          refine J_drawH [1] [0, 1, 2, 3, 4, 5, 6, 7, 10] (.quiet 0 (.quiet 1 (.quiet 2 (.quiet 3 (.quiet 4 (.quiet 5 (.quiet 6 (.quiet 7 (.loud 8 (.loud 9 (.quiet 10 .done))))))))))) Try.mixed (by kernel_rfl) (by kernel_rfl) (by repeat (first | exact retQ_noP | refine seqQ_noP ?_ | refine blockQ_noP ?_ | refine loopQ_noP ?_)) ?_
          refine S_q (Ent.re [1] rfl) rfl (Q_move rfl) rfl rfl rfl ?_
          refine S_q (Ent.re [1] rfl) rfl (Q_move rfl) rfl rfl rfl ?_
          refine S_q (Ent.re [1] rfl) rfl (Q_ixAt 0 0 rfl rfl rfl rfl (by simp) rfl) rfl rfl rfl ?_
          refine S_q (Ent.re [1] rfl) rfl (Q_ldEAt 0 0 0 (v := str k) rfl rfl rfl rfl (by simp) (by decide) rfl) rfl rfl rfl ?_
          refine S_q (Ent.re [1] rfl) rfl (Q_move rfl) rfl rfl rfl ?_
          refine S_q (Ent.re [1] rfl) rfl (Q_ixAt 0 1 rfl rfl rfl rfl (by simp) rfl) rfl rfl rfl ?_
          refine S_q (Ent.re [1] rfl) rfl (Q_ldEAt 0 1 0 (v := str v) rfl rfl rfl rfl (by simp) (by decide) rfl) rfl rfl rfl ?_
          refine S_q (Ent.re [1] rfl) rfl (Q_build rfl) rfl rfl rfl ?_
          refine S_o rfl rfl rfl rfl (O_litP (τ := tP) (m := 1) (sz := 2) [(k, v)] rfl rfl rfl rfl rfl rfl (by decide) (fun S1 => ⟨_, fun _ => ⟨Ent.reN [2] rfl, Ent.refl _⟩, ?_⟩))
          refine JS.norm ?_
          refine S_o rfl rfl rfl rfl (O_app (τ := tP) 1 rfl (fun w h => h.rd 0 rfl) rfl rfl rfl rfl (by simp; omega) (by decide) (fun S2 => ⟨_, fun _ => ⟨Ent.reN [2] rfl, Ent.refl _⟩, ?_⟩))
          refine JS.norm ?_
          refine S_q (Ent.re [2] rfl) rfl (Q_assign rfl) rfl rfl rfl ?_
          refine S_nil ?_
          repeat first
            | refine J_seq ?_
            | refine seqQ_normal ?_
            | refine J_condT rfl ?_
            | refine J_condF rfl ?_
            | refine J_block ?_
            | refine blockQ_normal ?_
            | refine J_exit ?_
            | refine seqQ_exit ?_
            | refine blockQ_hit ?_
            | refine blockQ_miss rfl ?_
            | refine J_skip ?_
            | refine J_ret ?_
            | refine seqQ_ret ?_
            | refine blockQ_ret ?_
            | refine loopQ_exit ?_
            | refine loopQ_ret ?_
            | refine J_label ?_
          repeat first
            | refine J_seq ?_
            | refine seqQ_normal ?_
            | refine J_condT rfl ?_
            | refine J_condF rfl ?_
            | refine J_block ?_
            | refine blockQ_normal ?_
            | refine J_exit ?_
            | refine seqQ_exit ?_
            | refine blockQ_hit ?_
            | refine blockQ_miss rfl ?_
            | refine J_skip ?_
            | refine J_ret ?_
            | refine seqQ_ret ?_
            | refine blockQ_ret ?_
            | refine loopQ_exit ?_
            | refine loopQ_ret ?_
            | refine J_label ?_
          refine J_region ?_
          refine L_q (Q_move rfl) rfl rfl rfl ?_
          refine L_q (Q_slL (τ := tS) 2 (fun w h => h.rd 2 rfl) rfl rfl rfl (by simp) rfl) rfl rfl rfl ?_
          refine L_q (Q_assign rfl) rfl rfl rfl ?_
          refine JL_nil ?_
          repeat first
            | refine J_seq ?_
            | refine seqQ_normal ?_
            | refine J_condT rfl ?_
            | refine J_condF rfl ?_
            | refine J_block ?_
            | refine blockQ_normal ?_
            | refine J_exit ?_
            | refine seqQ_exit ?_
            | refine blockQ_hit ?_
            | refine blockQ_miss rfl ?_
            | refine J_skip ?_
            | refine J_ret ?_
            | refine seqQ_ret ?_
            | refine blockQ_ret ?_
            | refine loopQ_exit ?_
            | refine loopQ_ret ?_
            | refine J_label ?_
          refine loopQ_normal (out ++ [(k, v)], S2, r, U.sub 1 2 (k :: v :: r).length) ⟨h5, by simp only; omega, by simp; omega⟩ (by simp; omega) ⟨rfl, rfl, trivial⟩ ?_
          exact (Ent.sub 2 2 (k :: v :: r).length rfl (by simp) (Nat.le_refl _)).trans (by rw [show ((k :: v :: r).take (k :: v :: r).length).drop 2 = r by simp]; exact Ent.re [1, 2, 3] rfl)
        | j + 1 =>
          have hj : j < out.length := by omega
          have hl := lastK_at out j hout
          have hc : Op.bytesLess out[j].1 k = true := by rw [hl] at hb; simpa [badK] using hb
          repeat first
            | refine J_seq ?_
            | refine seqQ_normal ?_
            | refine J_condT rfl ?_
            | refine J_condF rfl ?_
            | refine J_block ?_
            | refine blockQ_normal ?_
            | refine J_exit ?_
            | refine seqQ_exit ?_
            | refine blockQ_hit ?_
            | refine blockQ_miss rfl ?_
            | refine J_skip ?_
            | refine J_ret ?_
            | refine seqQ_ret ?_
            | refine blockQ_ret ?_
            | refine loopQ_exit ?_
            | refine loopQ_ret ?_
            | refine J_label ?_
          refine J_drawH [0,1] [0, 1, 2, 3, 4, 5, 6, 7, 8, 9, 10, 11, 12, 13] (.quiet 0 (.quiet 1 (.quiet 2 (.quiet 3 (.quiet 4 (.quiet 5 (.quiet 6 (.quiet 7 (.quiet 8 (.quiet 9 (.quiet 10 (.quiet 11 (.quiet 12 (.quiet 13 .done)))))))))))))) Try.mixed (by kernel_rfl) (by kernel_rfl) (by repeat (first | exact retQ_noP | refine seqQ_noP ?_ | refine blockQ_noP ?_ | refine loopQ_noP ?_)) ?_
          refine S_q (Ent.re [0,1] rfl) rfl (Q_move rfl) rfl rfl rfl ?_
          refine S_q (Ent.re [0,1] rfl) rfl ((Q_gtr rfl rfl).as (v' := .bool true) (congrArg Value.bool (decide_eq_true (by omega)))) rfl rfl rfl ?_
          refine S_q (Ent.re [0,1] rfl) rfl (Q_move rfl) rfl rfl rfl ?_
          refine S_q (Ent.re [0,1] rfl) rfl (Q_move rfl) rfl rfl rfl ?_
          refine S_q (Ent.re [0,1] rfl) rfl (Q_move rfl) rfl rfl rfl ?_
          refine S_q (Ent.re [0,1] rfl) rfl (Q_sub rfl rfl (by first | exact IntWalk.i64_in _ (by omega) | exact IntWalk.u8_in _ (by omega) | exact IntWalk.u32_in _ (by omega) | exact IntWalk.u64_in _ (by omega) | rfl)) rfl rfl rfl ?_
          refine S_q (Ent.re [0,1] rfl) rfl (Q_ixAt 0 j rfl rfl rfl (by omega) hj rfl) rfl rfl rfl ?_
          refine S_q (Ent.re [0,1] rfl) rfl (Q_pfa rfl) rfl rfl rfl ?_
          refine S_q (Ent.re [0,1] rfl) rfl (Q_ldEAt 0 j 0 (v := str out[j].1) rfl rfl rfl rfl hj (by decide) rfl) rfl rfl rfl ?_
          refine S_q (Ent.re [0,1] rfl) rfl (Q_move rfl) rfl rfl rfl ?_
          refine S_q (Ent.re [0,1] rfl) rfl (Q_ixAt 1 0 rfl rfl rfl rfl (by simp) rfl) rfl rfl rfl ?_
          refine S_q (Ent.re [0,1] rfl) rfl (Q_ldEAt 1 0 0 (v := str k) rfl rfl rfl rfl (by simp) (by decide) rfl) rfl rfl rfl ?_
          refine S_q (Ent.re [0,1] rfl) rfl ((Q_sgeq rfl rfl).as (v' := .bool false) (by rw [hc]; rfl)) rfl rfl rfl ?_
          first
            | refine S_q (Ent.re [0,1] rfl) rfl (Q_pickT rfl rfl) rfl rfl rfl ?_
            | refine S_q (Ent.re [0,1] rfl) rfl (Q_pickF rfl rfl) rfl rfl rfl ?_
            | refine S_q (Ent.re [0,1] rfl) rfl (Q_pickB rfl rfl rfl) rfl rfl rfl ?_
          refine S_nil ?_
          repeat first
            | refine J_seq ?_
            | refine seqQ_normal ?_
            | refine J_condT rfl ?_
            | refine J_condF rfl ?_
            | refine J_block ?_
            | refine blockQ_normal ?_
            | refine J_exit ?_
            | refine seqQ_exit ?_
            | refine blockQ_hit ?_
            | refine blockQ_miss rfl ?_
            | refine J_skip ?_
            | refine J_ret ?_
            | refine seqQ_ret ?_
            | refine blockQ_ret ?_
            | refine loopQ_exit ?_
            | refine loopQ_ret ?_
            | refine J_label ?_
          repeat first
            | refine J_seq ?_
            | refine seqQ_normal ?_
            | refine J_condT rfl ?_
            | refine J_condF rfl ?_
            | refine J_block ?_
            | refine blockQ_normal ?_
            | refine J_exit ?_
            | refine seqQ_exit ?_
            | refine blockQ_hit ?_
            | refine blockQ_miss rfl ?_
            | refine J_skip ?_
            | refine J_ret ?_
            | refine seqQ_ret ?_
            | refine blockQ_ret ?_
            | refine loopQ_exit ?_
            | refine loopQ_ret ?_
            | refine J_label ?_
          refine J_drawH [1] [0, 1, 2, 3, 4, 5, 6, 7, 10] (.quiet 0 (.quiet 1 (.quiet 2 (.quiet 3 (.quiet 4 (.quiet 5 (.quiet 6 (.quiet 7 (.loud 8 (.loud 9 (.quiet 10 .done))))))))))) Try.mixed (by kernel_rfl) (by kernel_rfl) (by repeat (first | exact retQ_noP | refine seqQ_noP ?_ | refine blockQ_noP ?_ | refine loopQ_noP ?_)) ?_
          refine S_q (Ent.re [1] rfl) rfl (Q_move rfl) rfl rfl rfl ?_
          refine S_q (Ent.re [1] rfl) rfl (Q_move rfl) rfl rfl rfl ?_
          refine S_q (Ent.re [1] rfl) rfl (Q_ixAt 0 0 rfl rfl rfl rfl (by simp) rfl) rfl rfl rfl ?_
          refine S_q (Ent.re [1] rfl) rfl (Q_ldEAt 0 0 0 (v := str k) rfl rfl rfl rfl (by simp) (by decide) rfl) rfl rfl rfl ?_
          refine S_q (Ent.re [1] rfl) rfl (Q_move rfl) rfl rfl rfl ?_
          refine S_q (Ent.re [1] rfl) rfl (Q_ixAt 0 1 rfl rfl rfl rfl (by simp) rfl) rfl rfl rfl ?_
          refine S_q (Ent.re [1] rfl) rfl (Q_ldEAt 0 1 0 (v := str v) rfl rfl rfl rfl (by simp) (by decide) rfl) rfl rfl rfl ?_
          refine S_q (Ent.re [1] rfl) rfl (Q_build rfl) rfl rfl rfl ?_
          refine S_o rfl rfl rfl rfl (O_litP (τ := tP) (m := 1) (sz := 2) [(k, v)] rfl rfl rfl rfl rfl rfl (by decide) (fun S1 => ⟨_, fun _ => ⟨Ent.reN [2] rfl, Ent.refl _⟩, ?_⟩))
          refine JS.norm ?_
          refine S_o rfl rfl rfl rfl (O_app (τ := tP) 1 rfl (fun w h => h.rd 0 rfl) rfl rfl rfl rfl (by simp; omega) (by decide) (fun S2 => ⟨_, fun _ => ⟨Ent.reN [2] rfl, Ent.refl _⟩, ?_⟩))
          refine JS.norm ?_
          refine S_q (Ent.re [2] rfl) rfl (Q_assign rfl) rfl rfl rfl ?_
          refine S_nil ?_
          repeat first
            | refine J_seq ?_
            | refine seqQ_normal ?_
            | refine J_condT rfl ?_
            | refine J_condF rfl ?_
            | refine J_block ?_
            | refine blockQ_normal ?_
            | refine J_exit ?_
            | refine seqQ_exit ?_
            | refine blockQ_hit ?_
            | refine blockQ_miss rfl ?_
            | refine J_skip ?_
            | refine J_ret ?_
            | refine seqQ_ret ?_
            | refine blockQ_ret ?_
            | refine loopQ_exit ?_
            | refine loopQ_ret ?_
            | refine J_label ?_
          repeat first
            | refine J_seq ?_
            | refine seqQ_normal ?_
            | refine J_condT rfl ?_
            | refine J_condF rfl ?_
            | refine J_block ?_
            | refine blockQ_normal ?_
            | refine J_exit ?_
            | refine seqQ_exit ?_
            | refine blockQ_hit ?_
            | refine blockQ_miss rfl ?_
            | refine J_skip ?_
            | refine J_ret ?_
            | refine seqQ_ret ?_
            | refine blockQ_ret ?_
            | refine loopQ_exit ?_
            | refine loopQ_ret ?_
            | refine J_label ?_
          refine J_region ?_
          refine L_q (Q_move rfl) rfl rfl rfl ?_
          refine L_q (Q_slL (τ := tS) 2 (fun w h => h.rd 2 rfl) rfl rfl rfl (by simp) rfl) rfl rfl rfl ?_
          refine L_q (Q_assign rfl) rfl rfl rfl ?_
          refine JL_nil ?_
          repeat first
            | refine J_seq ?_
            | refine seqQ_normal ?_
            | refine J_condT rfl ?_
            | refine J_condF rfl ?_
            | refine J_block ?_
            | refine blockQ_normal ?_
            | refine J_exit ?_
            | refine seqQ_exit ?_
            | refine blockQ_hit ?_
            | refine blockQ_miss rfl ?_
            | refine J_skip ?_
            | refine J_ret ?_
            | refine seqQ_ret ?_
            | refine blockQ_ret ?_
            | refine loopQ_exit ?_
            | refine loopQ_ret ?_
            | refine J_label ?_
          refine loopQ_normal (out ++ [(k, v)], S2, r, U.sub 1 2 (k :: v :: r).length) ⟨h5, by simp only; omega, by simp; omega⟩ (by simp; omega) ⟨rfl, rfl, trivial⟩ ?_
          exact (Ent.sub 2 2 (k :: v :: r).length rfl (by simp) (Nat.le_refl _)).trans (by rw [show ((k :: v :: r).take (k :: v :: r).length).drop 2 = r by simp]; exact Ent.re [1, 2, 3] rfl)
    · obtain rfl : t = [] := List.eq_nil_of_length_eq_zero (by omega)
      have e5 : unpT s = some out := by rw [unpT_some hx, h1]; simp [unp]
      have e2 : unpE s = 0 := by unfold unpE; rw [e5]; rfl
      have e3 : unpL s = out := by unfold unpL; rw [e5]; rfl
      rw [e2, e3]
      repeat first
        | refine J_seq ?_
        | refine seqQ_normal ?_
        | refine J_condT rfl ?_
        | refine J_condF rfl ?_
        | refine J_block ?_
        | refine blockQ_normal ?_
        | refine J_exit ?_
        | refine seqQ_exit ?_
        | refine blockQ_hit ?_
        | refine blockQ_miss rfl ?_
        | refine J_skip ?_
        | refine J_ret ?_
        | refine seqQ_ret ?_
        | refine blockQ_ret ?_
        | refine loopQ_exit ?_
        | refine loopQ_ret ?_
        | refine J_label ?_
      refine J_region ?_
      refine L_q (Q_move rfl) rfl rfl rfl ?_
      refine L_q (Q_assign rfl) rfl rfl rfl ?_
      refine L_q (Q_assign rfl) rfl rfl rfl ?_
      refine JL_nil ?_
      repeat first
        | refine J_seq ?_
        | refine seqQ_normal ?_
        | refine J_condT rfl ?_
        | refine J_condF rfl ?_
        | refine J_block ?_
        | refine blockQ_normal ?_
        | refine J_exit ?_
        | refine seqQ_exit ?_
        | refine blockQ_hit ?_
        | refine blockQ_miss rfl ?_
        | refine J_skip ?_
        | refine J_ret ?_
        | refine seqQ_ret ?_
        | refine blockQ_ret ?_
        | refine loopQ_exit ?_
        | refine loopQ_ret ?_
        | refine J_label ?_
      exact retQ_ret _ [slc tP true B out] (.cons (RV_tmp rfl) (.cons (RV_tmp rfl) .nil)) ⟨B, rfl, rfl⟩ (Ent.re [0, 2] rfl)
end Go.Proofs
