/- Part 21 of the texts below the row: Unpack, Ref37c, Ref37d, Ref37e, Ref37f, Snap6, Ref37g, LastP, Kv7, Kv8, Kv9, Kv10, Kv11, Kv12, KvP, KvQ. -/
import Derived.Test.YtkglhackgghcfaaGreatM20
/- Pairs unpacked, walked. -/
set_option autoImplicit false
namespace Go.Proofs
open Go.SL
attribute [local irreducible] J JL QOp JOp seqQ blockQ loopQ retQ slc cel hex star pur stars Does RV Ent pAt
theorem unpack_ok (E : World) (s : List UInt8) (hs : s.length ≤ 100000000) : Does Tryz.prog E 56 [str s] [] fun v L => ∃ S : SV, v = .tuple #[S.v, .int .i64 (unpE s)] ∧ L = [slc tP true S (unpL s)] := by
  refine Does.of Tryz.func56 rfl Tryz.ntmps56 rfl rfl fun F => ?_
  refine J.norm ?_
  refine J_seq ?_
  refine J_region ?_
  refine L_q (Q_assign rfl) rfl rfl rfl ?_
  refine L_q (Q_assign rfl) rfl rfl rfl ?_
  refine JL_nil ?_
  refine seqQ_normal ?_
  refine J_seq ?_
  refine J_region ?_
  refine L_q (Q_move rfl) rfl rfl rfl ?_
  refine L_o rfl rfl rfl (O_call [] [0] (wread_ok E s hs) rfl rfl ?_)
  rintro _ _ ⟨T, rfl, rfl⟩
  refine JL.norm ?_
  refine L_q (Q_move rfl) rfl rfl rfl ?_
  refine L_q (Q_extract (v := T.v) rfl rfl) rfl rfl rfl ?_
  refine L_q (Q_extract (v := .int .i64 (readE s)) rfl rfl) rfl rfl rfl ?_
  refine L_q (Q_assign rfl) rfl rfl rfl ?_
  refine L_q (Q_assign rfl) rfl rfl rfl ?_
  refine JL_nil ?_
  refine seqQ_normal ?_
  refine J_seq ?_
  refine J_seq ?_
  have hlen := readL_len s
  cases hx : readT s with
  | none =>
    have e1 : readE s = 3 := by unfold readE; rw [hx]; rfl
    have e2 : unpE s = 3 := by unfold unpE; rw [unpT_none hx]; rfl
    have e3 : unpL s = [] := by unfold unpL; rw [unpT_none hx]; rfl
    rw [e1, e2, e3]
    refine J_region ?_
    refine L_q (Q_move rfl) rfl rfl rfl ?_
    refine L_q ((Q_neq rfl rfl).as (v' := .bool true) rfl) rfl rfl rfl ?_
    refine L_q (Q_move rfl) rfl rfl rfl ?_
    refine L_n rfl rfl rfl ?_
    refine L_n rfl rfl rfl ?_
    refine L_n rfl rfl rfl ?_
    refine L_n rfl rfl rfl ?_
    refine L_q (Q_pickT rfl rfl) rfl rfl rfl ?_
    refine JL_nil ?_
    refine seqQ_normal ?_
    refine J_condT rfl ?_
    refine J_seq ?_
    refine J_region ?_
    refine L_q (Q_assign rfl) rfl rfl rfl ?_
    refine L_q (Q_assign rfl) rfl rfl rfl ?_
    refine JL_nil ?_
    refine seqQ_normal ?_
    refine J_ret ?_
    refine seqQ_ret ?_
    refine retQ_ret _ [slc tP true SV.nil []] (.cons (RV_tmp rfl) (.cons (RV_tmp rfl) .nil)) ⟨SV.nil, rfl, rfl⟩ ?_
    exact (Ent.mk fun _ _ h => (h.lay_nil tP true : Sat _ _ (slc tP true SV.nil [] :: _))).trans (Ent.re [0, 2] rfl)
  | some t0 =>
    have e1 : readE s = 0 := by unfold readE; rw [hx]; rfl
    have e4 : readL s = t0 := by unfold readL; rw [hx]; rfl
    rw [e1, e4] 
    rw [e4] at hlen
    refine J_region ?_
    refine L_q (Q_move rfl) rfl rfl rfl ?_
    refine L_q ((Q_neq rfl rfl).as (v' := .bool false) rfl) rfl rfl rfl ?_
    refine L_q (Q_move rfl) rfl rfl rfl ?_
    refine L_q (Q_move rfl) rfl rfl rfl ?_
    refine L_q (Q_lenAt 0 rfl rfl) rfl rfl rfl ?_
    refine L_q (Q_rem rfl rfl (by decide) (by first | exact IntWalk.rem_in _ _ (by omega) | rfl)) rfl rfl rfl ?_
    refine L_q (Q_eql rfl rfl) rfl rfl rfl ?_
    refine L_q (Q_pickF rfl rfl) rfl rfl rfl ?_
    refine JL_nil ?_
    refine seqQ_normal ?_
    refine J_condD rfl (fun h => ?_) (fun h => ?_)
    · have ho : t0.length % 2 = 1 := by omega
      have e5 : unpT s = none := by rw [unpT_some hx]; exact unp_odd _ _ _ (Nat.le_refl _) ho
      have e2 : unpE s = 3 := by unfold unpE; rw [e5]; rfl
      have e3 : unpL s = [] := by unfold unpL; rw [e5]; rfl
      rw [e2, e3]
      refine J_seq ?_
      refine J_region ?_
      refine L_q (Q_assign rfl) rfl rfl rfl ?_
      refine L_q (Q_assign rfl) rfl rfl rfl ?_
      refine JL_nil ?_
      refine seqQ_normal ?_
      refine J_ret ?_
      refine seqQ_ret ?_
      refine retQ_ret _ [slc tP true SV.nil []] (.cons (RV_tmp rfl) (.cons (RV_tmp rfl) .nil)) ⟨SV.nil, rfl, rfl⟩ ?_
      exact (Ent.mk fun _ _ h => (h.lay_nil tP true : Sat _ _ (slc tP true SV.nil [] :: _))).trans (Ent.re [0, 2] rfl)
    have ho : t0.length % 2 = 0 := by omega
    refine J_skip ?_
    refine seqQ_normal ?_
    refine J_seq ?_
    refine J_region ?_
    refine L_q (Q_assign rfl) rfl rfl rfl ?_
    refine JL_nil ?_
    refine seqQ_normal ?_
    refine J_seq ?_
    refine J_block ?_
    refine J.ent (Ent.mk fun _ _ h => (h.lay_nil tP true : Sat _ _ (slc tP true SV.nil [] :: _))) ?_
    refine J_loop (fun i : List Pr × SV × List (List UInt8) × SV => unp none t0 = (unp (lastK i.1) i.2.2.1).map (i.1 ++ ·) ∧ i.2.2.1.length % 2 = 0 ∧ 2 * i.1.length + i.2.2.1.length = t0.length) (fun i => [(4, i.2.2.2.v), (6, i.2.1.v)])
      (fun i => [slc tP true i.2.1 i.1, slc tS true i.2.2.2 i.2.2.1, F]) (fun i => i.2.2.1.length) ([], SV.nil, t0, T) ⟨by simp [lastK], ho, by simp⟩ ⟨rfl, rfl, trivial⟩ (Ent.refl _) ?_
    rintro ⟨out, B, t, U⟩ ⟨h1, h2, h3⟩
    dsimp only at h1 h2 h3 ⊢
    refine J_seq ?_
    refine J_seq ?_
    refine J_region ?_
    refine L_q (Q_move rfl) rfl rfl rfl ?_
    refine L_q (Q_lenAt 1 rfl rfl) rfl rfl rfl ?_
    refine L_q (Q_gtr rfl rfl) rfl rfl rfl ?_
    refine JL_nil ?_
    refine seqQ_normal ?_
    refine J_condD rfl (fun h4 => ?_) (fun h4 => ?_)
    · obtain ⟨k, v, r, rfl⟩ : ∃ k v r, t = k :: v :: r := by
        match t, h2, h4 with
        | k :: v :: r, _, _ => exact ⟨k, v, r, rfl⟩
      refine J_skip ?_
      refine seqQ_normal ?_
      refine J_seq ?_
      refine J_block ?_
      refine J_seq ?_
      refine J_seq ?_
      refine J_region ?_
      refine L_q (Q_move rfl) rfl rfl rfl ?_
      refine L_q (Q_lenAt 0 rfl rfl) rfl rfl rfl ?_
      refine L_q (Q_assign rfl) rfl rfl rfl ?_
      refine JL_nil ?_
      refine seqQ_normal ?_
      refine J_seq ?_
      cases hb : badK (lastK out) k with
      | true =>
        have e5 : unpT s = none := by rw [unpT_some hx, h1]; simp [unp, hb]
        have e2 : unpE s = 3 := by unfold unpE; rw [e5]; rfl
        have e3 : unpL s = [] := by unfold unpL; rw [e5]; rfl
        rw [e2, e3]
        match hout : out.length with
        | 0 => rw [List.eq_nil_of_length_eq_zero hout] at hb; cases hb
        | j + 1 =>
          have hj : j < out.length := by omega
          have hl := lastK_at out j hout
          have hc : Op.bytesLess out[j].1 k = false := by rw [hl] at hb; simpa [badK] using hb
          refine J_drawH [0,1] [0, 1, 2, 3, 4, 5, 6, 7, 8, 9, 10, 11, 12, 13] (.quiet 0 (.quiet 1 (.quiet 2 (.quiet 3 (.quiet 4 (.quiet 5 (.quiet 6 (.quiet 7 (.quiet 8 (.quiet 9 (.quiet 10 (.quiet 11 (.quiet 12 (.quiet 13 .done)))))))))))))) Tryz.mixed (by kernel_rfl) (by kernel_rfl) (by repeat (first | exact retQ_noP | refine seqQ_noP ?_ | refine blockQ_noP ?_ | refine loopQ_noP ?_ | refine scopeQ_noP ?_ | (intro _ _ _ h; cases h.1))) ?_
          refine S_q (Ent.re [0,1] rfl) rfl (Q_move rfl) rfl rfl rfl ?_
          refine S_q (Ent.re [0,1] rfl) rfl ((Q_gtr rfl rfl).as (v' := .bool true) (congrArg Value.bool (decide_eq_true (by omega)))) rfl rfl rfl ?_
          refine S_q (Ent.re [0,1] rfl) rfl (Q_move rfl) rfl rfl rfl ?_
          refine S_q (Ent.re [0,1] rfl) rfl (Q_move rfl) rfl rfl rfl ?_
          refine S_q (Ent.re [0,1] rfl) rfl (Q_move rfl) rfl rfl rfl ?_
          refine S_q (Ent.re [0,1] rfl) rfl (Q_sub rfl rfl (by first | exact IntWalk.i64_in _ (by omega) | exact IntWalk.u8_in _ (by omega) | exact IntWalk.u32_in _ (by omega) | exact IntWalk.u64_in _ (by omega) | rfl)) rfl rfl rfl ?_
          refine S_q (Ent.re [0,1] rfl) rfl (Q_ixAt 0 j rfl rfl rfl (by omega) hj rfl) rfl rfl rfl ?_
          refine S_q (Ent.re [0,1] rfl) rfl (Q_pfa rfl) rfl rfl rfl ?_
          refine S_q (Ent.re [0,1] rfl) rfl (Q_ldEAt 0 j 0 (v := str out[j].1) rfl rfl rfl rfl hj (by decide) rfl) rfl rfl rfl ?_
          refine S_q (Ent.re [0,1] rfl) rfl (Q_move rfl) rfl rfl rfl ?_
          refine S_q (Ent.re [0,1] rfl) rfl (Q_ixAt 1 0 rfl rfl rfl rfl (by simp) rfl) rfl rfl rfl ?_
          refine S_q (Ent.re [0,1] rfl) rfl (Q_ldEAt 1 0 0 (v := str k) rfl rfl rfl rfl (by simp) (by decide) rfl) rfl rfl rfl ?_
          refine S_q (Ent.re [0,1] rfl) rfl ((Q_sgeq rfl rfl).as (v' := .bool true) (by rw [hc]; rfl)) rfl rfl rfl ?_
          refine S_q (Ent.re [0,1] rfl) rfl (Q_pickT rfl rfl) rfl rfl rfl ?_
          refine S_nil ?_
          refine seqQ_normal ?_
          refine J_condT rfl ?_
          refine J_seq ?_
          refine J_region ?_
          refine L_q (Q_assign rfl) rfl rfl rfl ?_
          refine L_q (Q_assign rfl) rfl rfl rfl ?_
          refine JL_nil ?_
          refine seqQ_normal ?_
          refine J_ret ?_
          refine seqQ_ret ?_
          refine blockQ_ret ?_
          refine seqQ_ret ?_
          refine loopQ_ret ?_
          refine blockQ_ret ?_
          refine seqQ_ret ?_
          refine retQ_ret _ [slc tP true SV.nil []] (.cons (RV_tmp rfl) (.cons (RV_tmp rfl) .nil)) ⟨SV.nil, rfl, rfl⟩ ?_
          exact (Ent.mk fun _ _ h => (h.lay_nil tP true : Sat _ _ (slc tP true SV.nil [] :: _))).trans (Ent.re [0, 3] rfl)
      | false =>
        have h5 : unp none t0 = (unp (lastK (out ++ [(k, v)])) r).map (out ++ [(k, v)] ++ ·) := by
          rw [h1, lastK_snoc]
          simp only [unp, hb, Bool.false_eq_true, if_false]
          cases unp (some k) r <;> simp
        simp only [List.length_cons] at h2 h3
        match hout : out.length with
        | 0 =>
          refine J_drawH [0,1] [0, 1, 2, 3, 4, 5, 6, 7, 8, 9, 10, 11, 12, 13] (.quiet 0 (.quiet 1 (.quiet 2 (.quiet 3 (.quiet 4 (.quiet 5 (.quiet 6 (.quiet 7 (.quiet 8 (.quiet 9 (.quiet 10 (.quiet 11 (.quiet 12 (.quiet 13 .done)))))))))))))) Tryz.mixed (by kernel_rfl) (by kernel_rfl) (by repeat (first | exact retQ_noP | refine seqQ_noP ?_ | refine blockQ_noP ?_ | refine loopQ_noP ?_ | refine scopeQ_noP ?_ | (intro _ _ _ h; cases h.1))) ?_
          refine S_q (Ent.re [0,1] rfl) rfl (Q_move rfl) rfl rfl rfl ?_
          refine S_q (Ent.re [0,1] rfl) rfl ((Q_gtr rfl rfl).as (v' := .bool false) (congrArg Value.bool (decide_eq_false (by omega)))) rfl rfl rfl ?_
          refine S_q (Ent.re [0,1] rfl) rfl (Q_move rfl) rfl rfl rfl ?_
          refine S_n (Ent.re [0,1] rfl) rfl rfl rfl rfl ?_
          refine S_n (Ent.re [0,1] rfl) rfl rfl rfl rfl ?_
          refine S_n (Ent.re [0,1] rfl) rfl rfl rfl rfl ?_
          refine S_n (Ent.re [0,1] rfl) rfl rfl rfl rfl ?_
          refine S_n (Ent.re [0,1] rfl) rfl rfl rfl rfl ?_
          refine S_n (Ent.re [0,1] rfl) rfl rfl rfl rfl ?_
          refine S_n (Ent.re [0,1] rfl) rfl rfl rfl rfl ?_
          refine S_n (Ent.re [0,1] rfl) rfl rfl rfl rfl ?_
          refine S_n (Ent.re [0,1] rfl) rfl rfl rfl rfl ?_
          refine S_n (Ent.re [0,1] rfl) rfl rfl rfl rfl ?_
          refine S_q (Ent.re [0,1] rfl) rfl (Q_pickF rfl rfl) rfl rfl rfl ?_
          refine S_nil ?_
          refine seqQ_normal ?_
          refine J_condF rfl ?_
          refine J_skip ?_
          refine seqQ_normal ?_
          refine J_drawH [1] [0, 1, 2, 3, 4, 5, 6, 7, 10] (.quiet 0 (.quiet 1 (.quiet 2 (.quiet 3 (.quiet 4 (.quiet 5 (.quiet 6 (.quiet 7 (.loud 8 (.loud 9 (.quiet 10 .done))))))))))) Tryz.mixed (by kernel_rfl) (by kernel_rfl) (by repeat (first | exact retQ_noP | refine seqQ_noP ?_ | refine blockQ_noP ?_ | refine loopQ_noP ?_ | refine scopeQ_noP ?_ | (intro _ _ _ h; cases h.1))) ?_
          refine S_q (Ent.re [1] rfl) rfl (Q_move rfl) rfl rfl rfl ?_
          refine S_q (Ent.re [1] rfl) rfl (Q_move rfl) rfl rfl rfl ?_
          refine S_q (Ent.re [1] rfl) rfl (Q_ixAt 0 0 rfl rfl rfl rfl (by simp) rfl) rfl rfl rfl ?_
          refine S_q (Ent.re [1] rfl) rfl (Q_ldEAt 0 0 0 (v := str k) rfl rfl rfl rfl (by simp) (by decide) rfl) rfl rfl rfl ?_
          refine S_q (Ent.re [1] rfl) rfl (Q_move rfl) rfl rfl rfl ?_
          refine S_q (Ent.re [1] rfl) rfl (Q_ixAt 0 1 rfl rfl rfl rfl (by simp) rfl) rfl rfl rfl ?_
          refine S_q (Ent.re [1] rfl) rfl (Q_ldEAt 0 1 0 (v := str v) rfl rfl rfl rfl (by simp) (by decide) rfl) rfl rfl rfl ?_
          refine S_q (Ent.re [1] rfl) rfl (Q_build rfl) rfl rfl rfl ?_
          refine S_o rfl rfl rfl rfl (O_litP (τ := tP) (m := 1) (sz := 2) [(k, v)] rfl rfl rfl rfl rfl rfl (by decide) (fun S1 => ⟨_, fun _ => ⟨Ent.reN [2] rfl, Ent.refl _⟩, ?_⟩))
          refine JS.norm ?_
          refine S_o rfl rfl rfl rfl (O_app (τ := tP) 1 rfl (fun w h => h.rd 0 rfl) rfl rfl rfl rfl (by simp; omega) (by decide) (fun S2 => ⟨_, fun _ => ⟨Ent.reN [2] rfl, Ent.refl _⟩, ?_⟩))
          refine JS.norm ?_
          refine S_q (Ent.re [2] rfl) rfl (Q_assign rfl) rfl rfl rfl ?_
          refine S_nil ?_
          refine blockQ_normal ?_
          refine seqQ_normal ?_
          refine J_region ?_
          refine L_q (Q_move rfl) rfl rfl rfl ?_
          refine L_q (Q_slL (τ := tS) 2 (fun w h => h.rd 2 rfl) rfl rfl rfl (by simp) rfl) rfl rfl rfl ?_
          refine L_q (Q_assign rfl) rfl rfl rfl ?_
          refine JL_nil ?_
          refine loopQ_normal (out ++ [(k, v)], S2, r, U.sub 1 2 (k :: v :: r).length) ⟨h5, by simp only; omega, by simp; omega⟩ (by simp; omega) ⟨rfl, rfl, trivial⟩ ?_
          exact (Ent.sub 2 2 (k :: v :: r).length rfl (by simp) (Nat.le_refl _)).trans (by rw [show ((k :: v :: r).take (k :: v :: r).length).drop 2 = r by simp]; exact Ent.re [1, 2, 3] rfl)
        | j + 1 =>
          have hj : j < out.length := by omega
          have hl := lastK_at out j hout
          have hc : Op.bytesLess out[j].1 k = true := by rw [hl] at hb; simpa [badK] using hb
          refine J_drawH [0,1] [0, 1, 2, 3, 4, 5, 6, 7, 8, 9, 10, 11, 12, 13] (.quiet 0 (.quiet 1 (.quiet 2 (.quiet 3 (.quiet 4 (.quiet 5 (.quiet 6 (.quiet 7 (.quiet 8 (.quiet 9 (.quiet 10 (.quiet 11 (.quiet 12 (.quiet 13 .done)))))))))))))) Tryz.mixed (by kernel_rfl) (by kernel_rfl) (by repeat (first | exact retQ_noP | refine seqQ_noP ?_ | refine blockQ_noP ?_ | refine loopQ_noP ?_ | refine scopeQ_noP ?_ | (intro _ _ _ h; cases h.1))) ?_
          refine S_q (Ent.re [0,1] rfl) rfl (Q_move rfl) rfl rfl rfl ?_
          refine S_q (Ent.re [0,1] rfl) rfl ((Q_gtr rfl rfl).as (v' := .bool true) (congrArg Value.bool (decide_eq_true (by omega)))) rfl rfl rfl ?_
          refine S_q (Ent.re [0,1] rfl) rfl (Q_move rfl) rfl rfl rfl ?_
          refine S_q (Ent.re [0,1] rfl) rfl (Q_move rfl) rfl rfl rfl ?_
          refine S_q (Ent.re [0,1] rfl) rfl (Q_move rfl) rfl rfl rfl ?_
          refine S_q (Ent.re [0,1] rfl) rfl (Q_sub rfl rfl (by first | exact IntWalk.i64_in _ (by omega) | exact IntWalk.u8_in _ (by omega) | exact IntWalk.u32_in _ (by omega) | exact IntWalk.u64_in _ (by omega) | rfl)) rfl rfl rfl ?_
          refine S_q (Ent.re [0,1] rfl) rfl (Q_ixAt 0 j rfl rfl rfl (by omega) hj rfl) rfl rfl rfl ?_
          refine S_q (Ent.re [0,1] rfl) rfl (Q_pfa rfl) rfl rfl rfl ?_
          refine S_q (Ent.re [0,1] rfl) rfl (Q_ldEAt 0 j 0 (v := str out[j].1) rfl rfl rfl rfl hj (by decide) rfl) rfl rfl rfl ?_
          refine S_q (Ent.re [0,1] rfl) rfl (Q_move rfl) rfl rfl rfl ?_
          refine S_q (Ent.re [0,1] rfl) rfl (Q_ixAt 1 0 rfl rfl rfl rfl (by simp) rfl) rfl rfl rfl ?_
          refine S_q (Ent.re [0,1] rfl) rfl (Q_ldEAt 1 0 0 (v := str k) rfl rfl rfl rfl (by simp) (by decide) rfl) rfl rfl rfl ?_
          refine S_q (Ent.re [0,1] rfl) rfl ((Q_sgeq rfl rfl).as (v' := .bool false) (by rw [hc]; rfl)) rfl rfl rfl ?_
          refine S_q (Ent.re [0,1] rfl) rfl (Q_pickT rfl rfl) rfl rfl rfl ?_
          refine S_nil ?_
          refine seqQ_normal ?_
          refine J_condF rfl ?_
          refine J_skip ?_
          refine seqQ_normal ?_
          refine J_drawH [1] [0, 1, 2, 3, 4, 5, 6, 7, 10] (.quiet 0 (.quiet 1 (.quiet 2 (.quiet 3 (.quiet 4 (.quiet 5 (.quiet 6 (.quiet 7 (.loud 8 (.loud 9 (.quiet 10 .done))))))))))) Tryz.mixed (by kernel_rfl) (by kernel_rfl) (by repeat (first | exact retQ_noP | refine seqQ_noP ?_ | refine blockQ_noP ?_ | refine loopQ_noP ?_ | refine scopeQ_noP ?_ | (intro _ _ _ h; cases h.1))) ?_
          refine S_q (Ent.re [1] rfl) rfl (Q_move rfl) rfl rfl rfl ?_
          refine S_q (Ent.re [1] rfl) rfl (Q_move rfl) rfl rfl rfl ?_
          refine S_q (Ent.re [1] rfl) rfl (Q_ixAt 0 0 rfl rfl rfl rfl (by simp) rfl) rfl rfl rfl ?_
          refine S_q (Ent.re [1] rfl) rfl (Q_ldEAt 0 0 0 (v := str k) rfl rfl rfl rfl (by simp) (by decide) rfl) rfl rfl rfl ?_
          refine S_q (Ent.re [1] rfl) rfl (Q_move rfl) rfl rfl rfl ?_
          refine S_q (Ent.re [1] rfl) rfl (Q_ixAt 0 1 rfl rfl rfl rfl (by simp) rfl) rfl rfl rfl ?_
          refine S_q (Ent.re [1] rfl) rfl (Q_ldEAt 0 1 0 (v := str v) rfl rfl rfl rfl (by simp) (by decide) rfl) rfl rfl rfl ?_
          refine S_q (Ent.re [1] rfl) rfl (Q_build rfl) rfl rfl rfl ?_
          refine S_o rfl rfl rfl rfl (O_litP (τ := tP) (m := 1) (sz := 2) [(k, v)] rfl rfl rfl rfl rfl rfl (by decide) (fun S1 => ⟨_, fun _ => ⟨Ent.reN [2] rfl, Ent.refl _⟩, ?_⟩))
          refine JS.norm ?_
          refine S_o rfl rfl rfl rfl (O_app (τ := tP) 1 rfl (fun w h => h.rd 0 rfl) rfl rfl rfl rfl (by simp; omega) (by decide) (fun S2 => ⟨_, fun _ => ⟨Ent.reN [2] rfl, Ent.refl _⟩, ?_⟩))
          refine JS.norm ?_
          refine S_q (Ent.re [2] rfl) rfl (Q_assign rfl) rfl rfl rfl ?_
          refine S_nil ?_
          refine blockQ_normal ?_
          refine seqQ_normal ?_
          refine J_region ?_
          refine L_q (Q_move rfl) rfl rfl rfl ?_
          refine L_q (Q_slL (τ := tS) 2 (fun w h => h.rd 2 rfl) rfl rfl rfl (by simp) rfl) rfl rfl rfl ?_
          refine L_q (Q_assign rfl) rfl rfl rfl ?_
          refine JL_nil ?_
          refine loopQ_normal (out ++ [(k, v)], S2, r, U.sub 1 2 (k :: v :: r).length) ⟨h5, by simp only; omega, by simp; omega⟩ (by simp; omega) ⟨rfl, rfl, trivial⟩ ?_
          exact (Ent.sub 2 2 (k :: v :: r).length rfl (by simp) (Nat.le_refl _)).trans (by rw [show ((k :: v :: r).take (k :: v :: r).length).drop 2 = r by simp]; exact Ent.re [1, 2, 3] rfl)
    · obtain rfl : t = [] := List.eq_nil_of_length_eq_zero (by omega)
      have e5 : unpT s = some out := by rw [unpT_some hx, h1]; simp [unp]
      have e2 : unpE s = 0 := by unfold unpE; rw [e5]; rfl
      have e3 : unpL s = out := by unfold unpL; rw [e5]; rfl
      rw [e2, e3]
      refine J_exit ?_
      refine seqQ_exit ?_
      refine loopQ_exit ?_
      refine blockQ_hit ?_
      refine seqQ_normal ?_
      refine J_seq ?_
      refine J_region ?_
      refine L_q (Q_move rfl) rfl rfl rfl ?_
      refine L_q (Q_assign rfl) rfl rfl rfl ?_
      refine L_q (Q_assign rfl) rfl rfl rfl ?_
      refine JL_nil ?_
      refine seqQ_normal ?_
      refine J_ret ?_
      exact retQ_ret _ [slc tP true B out] (.cons (RV_tmp rfl) (.cons (RV_tmp rfl) .nil)) ⟨B, rfl, rfl⟩ (Ent.re [0, 2] rfl)
end Go.Proofs
/- The document's slots, walked. -/
set_option autoImplicit false
namespace Go.Proofs
open Go.SL
attribute [local irreducible] J JL QOp JOp seqQ blockQ loopQ retQ slc cel hex star pur stars Does RV Ent pAt
end Go.Proofs
/- Which slot the document tells. -/
set_option autoImplicit false
namespace Go.Proofs
open Go.SL
attribute [local irreducible] J JL QOp JOp seqQ blockQ loopQ retQ slc cel hex star pur stars Does RV Ent pAt
end Go.Proofs
/- What the document tells of the slots. -/
set_option autoImplicit false
namespace Go.Proofs
open Go.SL
attribute [local irreducible] J JL QOp JOp seqQ blockQ loopQ retQ slc cel hex star pur stars Does RV Ent pAt
end Go.Proofs
/- The document's write into the slots. -/
set_option autoImplicit false
namespace Go.Proofs
open Go.SL
attribute [local irreducible] J JL QOp JOp seqQ blockQ loopQ retQ slc cel hex star pur stars Does RV Ent pAt
theorem loadN_lt (a b : List UInt8) : loadN a b < 2 ^ 32 := by
  have h1 := nw_lt a 1
  have h2 := nw_lt b 1
  unfold loadN
  split
  · exact h2
  · split
    · exact h1
    · decide
end Go.Proofs
/- A byte of a slot, spoilt. -/
set_option autoImplicit false
namespace Go.Proofs
open Go.SL
attribute [local irreducible] J JL QOp JOp seqQ blockQ loopQ retQ slc cel hex star pur stars Does RV Ent pAt
def by8 (z : Int) : UInt8 := UInt8.ofNat (z % 256).toNat
theorem u8_wrap (z : Int) : IntKind.u8.wrap z = ((by8 z).toNat : Int) := by
  have h : IntKind.u8.wrap z = ((BitVec.ofInt 8 z).toNat : Int) := by simp only [IntKind.wrap, show IntKind.u8.signed = false from rfl]; simp [IntKind.bits]; omega
  have h2 : (by8 z).toNat = (z % 256).toNat % 256 := rfl
  rw [h, BitVec.toNat_ofInt, h2]
  congr 1
  have : (z % ((2 ^ 8 : Nat) : Int)) = z % 256 := rfl
  rw [this]
  omega
def spoilAt (l : List UInt8) (at' by' : Int) : List UInt8 := l.set at'.toNat (l.getD at'.toNat 0 ^^^ by8 by')
/-- The slots behind a byte that was spoilt; was it? -/
def doSpoil (a b : List UInt8) (i at' by' : Int) : List UInt8 × List UInt8 × Bool :=
  if i < 0 ∨ 1 < i ∨ at' < 0 then (a, b, false)
  else if i = 0 then (if (a.length : Int) ≤ at' then (a, b, false) else (spoilAt a at' by', b, true))
  else (if (b.length : Int) ≤ at' then (a, b, false) else (a, spoilAt b at' by', true))
end Go.Proofs
/- The document's spoilt byte. -/
set_option autoImplicit false
namespace Go.Proofs
open Go.SL
attribute [local irreducible] J JL QOp JOp seqQ blockQ loopQ retQ slc cel hex star pur stars Does RV Ent pAt
end Go.Proofs
/- What the slots tell behind writes, whole or cut, and behind a byte that is another one, in plain Lean. -/
set_option autoImplicit false
namespace Go.Proofs
open Go.SL
theorem be_four (n : Nat) : be (four n) = n % 2 ^ 32 := by
  simp only [be, four, List.foldl_cons, List.foldl_nil, UInt8.toNat_ofNat']
  omega
/-- A slot with a body that is whole. -/
def whole (g : Nat) (body : List UInt8) : List UInt8 :=
  four (crc (four (g % 2 ^ 32) ++ four (body.length % 2 ^ 32) ++ body)) ++ (four (g % 2 ^ 32) ++ four (body.length % 2 ^ 32) ++ body)
theorem four_len (n : Nat) : (four n).length = 4 := rfl
theorem whole_len (g : Nat) (body : List UInt8) : (whole g body).length = 12 + body.length := by simp [whole, four_len]; omega
theorem whole_drop4 (g : Nat) (body : List UInt8) : (whole g body).drop 4 = four (g % 2 ^ 32) ++ four (body.length % 2 ^ 32) ++ body := rfl
theorem whole_drop12 (g : Nat) (body : List UInt8) : (whole g body).drop 12 = body := rfl
theorem whole_nw0 (g : Nat) (body : List UInt8) : nw (whole g body) 0 = crc ((whole g body).drop 4) := by
  rw [whole_drop4]
  show be (four _) = _
  rw [be_four, Nat.mod_eq_of_lt (crc_lt _)]
theorem whole_nw1 (g : Nat) (body : List UInt8) : nw (whole g body) 1 = g % 2 ^ 32 := by
  show be (four _) = _
  rw [be_four, Nat.mod_mod]
theorem whole_nw2 (g : Nat) (body : List UInt8) : nw (whole g body) 2 = body.length % 2 ^ 32 := by
  show be (four _) = _
  rw [be_four, Nat.mod_mod]
theorem whole_right (g : Nat) (body : List UInt8) : rightB (whole g body) = true := by
  have h := whole_len g body
  simp only [rightB, Bool.and_eq_true, decide_eq_true_eq]
  exact ⟨by omega, whole_nw0 g body, by rw [whole_nw2, h]; congr 1; omega⟩
theorem cut_right (g : Nat) (body : List UInt8) (n : Nat) (hb : body.length ≤ 32768) (hn : n < 12 + body.length) : rightB ((whole g body).take n) = false := by
  have h := whole_len g body
  simp only [rightB, Bool.and_eq_false_iff, decide_eq_false_iff_not, List.length_take, h]
  by_cases h12 : 12 ≤ n
  · right; right
    have e : nw ((whole g body).take n) 2 = nw (whole g body) 2 := by
      unfold nw
      congr 1
      rw [List.drop_take, List.take_take]
      congr 1
      omega
    rw [e, whole_nw2]
    omega
  · left; omega
theorem wrote_eq (a b body : List UInt8) (upto : Int) : wrote a b body upto = if 0 ≤ upto ∧ upto < ((12 + body.length : Nat) : Int) then (whole (loadN a b + 1) body).take upto.toNat else whole (loadN a b + 1) body := by
  have h := whole_len (loadN a b + 1) body
  rw [← h]
  rfl
/-- Are these slots telling the body, written as the n-th? -/
def Tells (a b w : List UInt8) (n : Nat) : Prop :=
  (n = 0 ∧ w = [] ∧ rightB a = false ∧ rightB b = false) ∨ (0 < n ∧ rightB a = true ∧ nw a 1 = n ∧ a.drop 12 = w ∧ (rightB b = false ∨ nw b 1 ≤ n)) ∨
  (0 < n ∧ rightB b = true ∧ nw b 1 = n ∧ b.drop 12 = w ∧ (rightB a = false ∨ nw a 1 < n))
theorem tells_nil : Tells [] [] [] 0 := .inl ⟨rfl, rfl, rfl, rfl⟩
theorem Tells.told {a b w : List UInt8} {n : Nat} (h : Tells a b w n) : (n = 0 ∧ w = [] ∧ rightB a = false ∧ rightB b = false ∧ told a b = -1) ∨
    (0 < n ∧ rightB a = true ∧ nw a 1 = n ∧ a.drop 12 = w ∧ told a b = 0) ∨ (0 < n ∧ rightB b = true ∧ nw b 1 = n ∧ b.drop 12 = w ∧ told a b = 1) := by
  rcases h with ⟨h1, h2, h3, h4⟩ | ⟨h1, h2, h3, h4, h5⟩ | ⟨h1, h2, h3, h4, h5⟩
  · exact .inl ⟨h1, h2, h3, h4, by simp [Go.Proofs.told, h3, h4]⟩
  · refine .inr (.inl ⟨h1, h2, h3, h4, ?_⟩)
    unfold Go.Proofs.told
    rw [if_neg, if_pos h2]
    rintro ⟨h6, h7⟩
    rcases h5 with h5 | h5
    · rw [h5] at h6; cases h6
    · rcases h7 with h7 | h7
      · rw [h2] at h7; cases h7
      · omega
  · refine .inr (.inr ⟨h1, h2, h3, h4, ?_⟩)
    unfold Go.Proofs.told
    rw [if_pos]
    refine ⟨h2, h5.imp id fun h => by omega⟩
theorem Tells.load {a b w : List UInt8} {n : Nat} (h : Tells a b w n) : loadT a b = w ∧ loadN a b = n := by
  rcases h.told with ⟨h1, h2, _, _, h5⟩ | ⟨_, _, h3, h4, h5⟩ | ⟨_, _, h3, h4, h5⟩ <;> simp [loadT, loadN, h5, *]
def wholeN (body : List UInt8) (upto : Int) : Prop := upto < 0 ∨ (body.length : Int) ≤ upto - 12
instance (body : List UInt8) (upto : Int) : Decidable (wholeN body upto) := inferInstanceAs (Decidable (_ ∨ _))
theorem write_cut {a b body w : List UInt8} {upto : Int} {n : Nat} (h : Tells a b w n) (hb : body.length ≤ 32768) (hc : ¬ wholeN body upto) :
    Tells (doW a b body upto).1 (doW a b body upto).2.1 w n := by
  have hu : 0 ≤ upto ∧ upto < ((12 + body.length : Nat) : Int) := by unfold wholeN at hc; omega
  have hr := cut_right (loadN a b + 1) body upto.toNat hb (by omega)
  have hw : wrote a b body upto = (whole (loadN a b + 1) body).take upto.toNat := by rw [wrote_eq, if_pos hu]
  rw [← hw] at hr
  unfold doW
  rw [if_neg (by omega)]
  generalize wrote a b body upto = u at hr
  rcases h.told with ⟨h1, h2, h3, h4, h5⟩ | ⟨h1, h2, h3, h4, h5⟩ | ⟨h1, h2, h3, h4, h5⟩
  · rw [h5]; exact .inl ⟨h1, h2, hr, h4⟩
  · rw [h5]; exact .inr (.inl ⟨h1, h2, h3, h4, .inl hr⟩)
  · rw [h5]; exact .inr (.inr ⟨h1, h2, h3, h4, .inl hr⟩)
theorem write_whole {a b body w : List UInt8} {upto : Int} {n : Nat} (h : Tells a b w n) (hn : n < 1000) (hb : body.length ≤ 32768) (hc : wholeN body upto) :
    Tells (doW a b body upto).1 (doW a b body upto).2.1 body (n + 1) := by
  have hu : ¬ (0 ≤ upto ∧ upto < ((12 + body.length : Nat) : Int)) := by unfold wholeN at hc; omega
  have hw : wrote a b body upto = whole (loadN a b + 1) body := by rw [wrote_eq, if_neg hu]
  rw [h.load.2] at hw
  have h6 := whole_right (n + 1) body
  have h7 := whole_nw1 (n + 1) body
  have h8 := whole_drop12 (n + 1) body
  rw [Nat.mod_eq_of_lt (by omega)] at h7
  unfold doW
  rw [if_neg (by omega), hw]
  generalize whole (n + 1) body = u at h6 h7 h8
  rcases h.told with ⟨h1, h2, h3, h4, h5⟩ | ⟨h1, h2, h3, h4, h5⟩ | ⟨h1, h2, h3, h4, h5⟩
  · rw [h5]; exact .inr (.inl ⟨by omega, h6, h7, h8, .inl h4⟩)
  · rw [h5, if_pos rfl]; exact .inr (.inr ⟨by omega, h6, h7, h8, .inr (by simp only; omega)⟩)
  · rw [h5, if_neg (by decide)]; exact .inr (.inl ⟨by omega, h6, h7, h8, .inr (by simp only; omega)⟩)
theorem doW_err {a b body : List UInt8} {upto : Int} (h : 32768 < body.length) : doW a b body upto = (a, b, 2) := by unfold doW; rw [if_pos h]
theorem doW_ok {a b body : List UInt8} {upto : Int} (h : body.length ≤ 32768) : (doW a b body upto).2.2 = 0 := by
  unfold doW; rw [if_neg (by omega)]; split <;> rfl
theorem wrote_len (a b body : List UInt8) (upto : Int) : (wrote a b body upto).length ≤ 12 + body.length := by
  rw [wrote_eq]
  split
  · rw [List.length_take, whole_len]; omega
  · rw [whole_len]; omega
theorem doW_len {a b body : List UInt8} {upto : Int} (ha : a.length ≤ 40000) (hb : b.length ≤ 40000) : (doW a b body upto).1.length ≤ 40000 ∧ (doW a b body upto).2.1.length ≤ 40000 := by
  have := wrote_len a b body upto
  unfold doW
  split
  · exact ⟨ha, hb⟩
  · split
    · simp only; omega
    · simp only; omega
/-- A byte that is another one: the slot is not right. -/
theorem be_inj_aux : ∀ (s t : List UInt8) (a b : Nat), s.length = t.length → s.foldl (fun a b => a * 256 + b.toNat) a = t.foldl (fun a b => a * 256 + b.toNat) b → a = b ∧ s = t
  | [], [], _, _, _, h => ⟨h, rfl⟩
  | [], _ :: _, _, _, h, _ => by simp at h
  | _ :: _, [], _, _, h, _ => by simp at h
  | x :: s, y :: t, a, b, h, h2 => by
    rw [List.foldl_cons, List.foldl_cons] at h2
    obtain ⟨h3, h4⟩ := be_inj_aux s t _ _ (by simpa using h) h2
    have h5 := x.toNat_lt
    have h6 := y.toNat_lt
    have h7 : x.toNat = y.toNat := by omega
    exact ⟨by omega, by rw [h4, UInt8.toNat_inj.1 h7]⟩
theorem be_inj (s t : List UInt8) (h : s.length = t.length) (h2 : be s = be t) : s = t := (be_inj_aux s t 0 0 h h2).2
theorem spoil_right (l : List UInt8) (k : Nat) (x : UInt8) (h : rightB l = true) (hk : k < l.length) (hx : x ≠ l[k]) : rightB (l.set k x) = false := by
  simp only [rightB, Bool.and_eq_true, decide_eq_true_eq] at h
  obtain ⟨h1, h2, h3⟩ := h
  simp only [rightB, Bool.and_eq_false_iff, decide_eq_false_iff_not]
  right; left
  by_cases h4 : k < 4
  · have e : (l.set k x).drop 4 = l.drop 4 := by rw [List.drop_set_of_lt h4]
    rw [e, ← h2]
    intro h5
    have h6 := be_inj _ _ (by simp) h5
    have h7 : ((List.drop (4 * 0) (l.set k x)).take 4)[k]? = ((List.drop (4 * 0) l).take 4)[k]? := by rw [h6]
    simp [List.getElem?_take, h4, hk] at h7
    exact hx h7
  · have e0 : nw (l.set k x) 0 = nw l 0 := by
      unfold nw
      rw [show 4 * 0 = 0 from rfl, List.drop_zero, List.drop_zero, List.take_set_of_le (by omega)]
    have e : (l.set k x).drop 4 = (l.drop 4).set (k - 4) x := by
      rw [List.drop_set, if_neg h4]
    rw [e0, e, h2]
    exact fun h5 => crc_set (l.drop 4) (k - 4) x (by simp; omega) (by simpa [show 4 + (k - 4) = k by omega] using hx) h5.symm
end Go.Proofs
/- A number in four bytes; the store as one chunk. -/
set_option autoImplicit false
namespace Go.Proofs
open Go.SL Go.Proofs.Bt
abbrev kvC (p pt pl ps : Nat) (saved : Int) : HProp := cel p [.pointer (some ⟨pt, 0, none⟩), .pointer (some ⟨pl, 0, none⟩), .pointer (some ⟨ps, 0, none⟩), .int .i64 saved] 54
attribute [local irreducible] J JL QOp JOp seqQ blockQ loopQ retQ slc cel hex star pur stars Does RV Ent pAt scopeQ
attribute [local irreducible] nodeA nodeX treeA segA snapA
theorem kfour_ok (E : World) (n : Nat) : Does Tryz.prog E 30 [.int .i64 (n : Int)] [] fun v L => v = str (four n) ∧ L = [] := by
  refine Does.of Tryz.func30 rfl Tryz.ntmps30 rfl rfl fun F => ?_
  refine J.norm ?_
  refine J_seq ?_
  refine J_region ?_
  refine L_q (Q_assign rfl) rfl rfl rfl ?_
  refine JL_nil ?_
  refine seqQ_normal ?_
  refine J_seq ?_
  refine J_region ?_
  refine L_q (Q_move rfl) rfl rfl rfl ?_
  refine L_q (Q_shrZ n 24 rfl rfl rfl rfl (by decide)) rfl rfl rfl ?_
  refine L_q (Q_cvtN (n / 2 ^ 24) rfl rfl) rfl rfl rfl ?_
  refine L_q (Q_move rfl) rfl rfl rfl ?_
  refine L_q (Q_shrZ n 16 rfl rfl rfl rfl (by decide)) rfl rfl rfl ?_
  refine L_q (Q_cvtN (n / 2 ^ 16) rfl rfl) rfl rfl rfl ?_
  refine L_q (Q_move rfl) rfl rfl rfl ?_
  refine L_q (Q_shrZ n 8 rfl rfl rfl rfl (by decide)) rfl rfl rfl ?_
  refine L_q (Q_cvtN (n / 2 ^ 8) rfl rfl) rfl rfl rfl ?_
  refine L_q (Q_move rfl) rfl rfl rfl ?_
  refine L_q (Q_cvtN n rfl rfl) rfl rfl rfl ?_
  refine L_o rfl rfl rfl (O_litP (τ := tB) (m := 4) (sz := 1) (four n) rfl rfl rfl rfl rfl rfl (by decide) (fun S => ?_))
  refine JL.norm ?_
  refine L_q (Q_b2s tB_enc (fun w h => h.rd 0 rfl) rfl) rfl rfl rfl ?_
  refine L_q (Q_assign rfl) rfl rfl rfl ?_
  refine JL_nil ?_
  refine seqQ_normal ?_
  refine J_ret ?_
  exact retQ_ret _ [] (.cons (RV_tmp rfl) .nil) ⟨rfl, rfl⟩ (Ent.re [1] rfl)
theorem knew_ok (E : World) (z : Int) : Does Tryz.prog E 9 [.int .i64 z] [] fun v L => ∃ p pt pl ps : Nat, v = .pointer (some ⟨p, 0, none⟩) ∧ L = [kvC p pt pl ps 0, treeA pt [], segA pl ⟨newSize z, 0, []⟩, snapA ps [] []] := by
  refine Does.of Tryz.func9 rfl Tryz.ntmps9 rfl rfl fun F => ?_
  refine J.norm ?_
  refine J_seq ?_
  refine J_region ?_
  refine L_q (Q_assign rfl) rfl rfl rfl ?_
  refine JL_nil ?_
  refine seqQ_normal ?_
  refine J_seq ?_
  refine J_region ?_
  refine L_o rfl rfl rfl (O_call [] [0] (tnew_ok E) rfl rfl ?_)
  rintro _ _ ⟨pt, rfl, rfl⟩
  refine JL.norm ?_
  refine L_q (Q_move rfl) rfl rfl rfl ?_
  refine L_o rfl rfl rfl (O_call [] [0,1] (segnew_ok E z) rfl rfl ?_)
  rintro _ _ ⟨pl, rfl, rfl⟩
  refine JL.norm ?_
  refine L_o rfl rfl rfl (O_call [] [0,1,2,3,4] (snew_ok E) rfl rfl ?_)
  rintro _ _ ⟨ps, rfl, rfl⟩
  refine JL.norm ?_
  refine L_q (Q_build rfl) rfl rfl rfl ?_
  refine L_o rfl rfl rfl (O_box rfl fun b8 => ?_)
  refine L_q (Q_assign rfl) rfl rfl rfl ?_
  refine JL_nil ?_
  refine seqQ_normal ?_
  refine J_ret ?_
  refine retQ_ret _ [kvC b8 pt pl ps 0, treeA pt [], segA pl ⟨newSize z, 0, []⟩, snapA ps [] []] (.cons (RV_tmp rfl) .nil) ⟨b8, pt, pl, ps, rfl, rfl⟩ ?_
  refine (Ent.re [1, 2, 3, 0, 4, 5, 6, 7, 8] rfl).trans (Ent.snap.trans ?_)
  refine (Ent.re [2, 3, 4, 0, 1, 5, 6] rfl).trans ((Ent.seg (g := ⟨newSize z, 0, []⟩) rfl rfl rfl).trans ?_)
  exact Ent.re [2, 3, 0, 1, 4] rfl
end Go.Proofs
/- A change done and logged. -/
set_option autoImplicit false
namespace Go.Proofs
open Go.SL Go.Proofs.Bt
attribute [local irreducible] J JL QOp JOp seqQ blockQ loopQ retQ slc cel hex star pur stars Does RV Ent pAt scopeQ
attribute [local irreducible] nodeA nodeX treeA segA snapA
theorem chPut_ok (E : World) (p pt pl ps c : Nat) (saved : Int) (g : Lg) (l : List Kv) (k v : Ky) (hkv : k.length + v.length ≤ 1000000) (hg : Good g c) (hc : c ≤ 1000000) (hl : l.length ≤ 1000000) : Does Tryz.prog E 25 [.pointer (some ⟨p, 0, none⟩), chV (.put k v)] [kvC p pt pl ps saved, treeA pt l, segA pl g] fun r L => r = .int .i64 (appL g (chB (.put k v))).2.2 ∧ L = [kvC p pt pl ps saved, treeA pt (if (appL g (chB (.put k v))).2.2 = 0 then putL l k v else l), segA pl (appL g (chB (.put k v))).1] := by
  have hb := putB_ok E k v hkv
  have ha := gappend_ok E pl c g hg (by omega) (chB (.put k v))
  refine Does.of Tryz.func25 rfl Tryz.ntmps25 rfl rfl fun F => ?_
  refine J.norm ?_
  refine J_seq ?_
  refine J_region ?_
  refine L_q (Q_assign rfl) rfl rfl rfl ?_
  refine JL_nil ?_
  refine seqQ_normal ?_
  refine J_seq ?_
  refine J_seq ?_
  refine J_drawH [0] [0, 1, 2, 3, 4, 7, 8, 9, 10, 11] (.quiet 0 (.quiet 1 (.quiet 2 (.quiet 3 (.quiet 4 (.loud 5 (.loud 6 (.quiet 7 (.quiet 8 (.quiet 9 (.quiet 10 (.quiet 11 .done)))))))))))) Tryz.mixed (by kernel_rfl) (by kernel_rfl) (by repeat (first | exact retQ_noP | refine seqQ_noP ?_ | refine blockQ_noP ?_ | refine loopQ_noP ?_ | refine scopeQ_noP ?_ | (intro _ _ _ h; cases h.1))) ?_
  refine S_q (Ent.re [0] rfl) rfl (Q_move rfl) rfl rfl rfl ?_
  refine S_q (Ent.re [0] rfl) rfl (Q_nilCheck rfl) rfl rfl rfl ?_
  refine S_q (Ent.re [0] rfl) rfl (Q_fa0 rfl) rfl rfl rfl ?_
  refine S_q (Ent.re [0] rfl) rfl (Q_ld 0 rfl rfl rfl rfl) rfl rfl rfl ?_
  refine S_q (Ent.re [0] rfl) rfl (Q_move rfl) rfl rfl rfl ?_
  refine S_o rfl rfl rfl rfl (O_invoke [] [0,1,2,3] metPB rfl rfl hb rfl ?_)
  (rintro _ _ ⟨rfl, rfl⟩; refine ⟨_, fun _ => ⟨Ent.reN [0] rfl, Ent.refl _⟩, ?_⟩)
  refine JS.norm ?_
  refine S_o rfl rfl rfl rfl (O_call [2] [0,1,3] ha rfl rfl ?_)
  (rintro _ _ ⟨rfl, rfl⟩; refine ⟨_, fun _ => ⟨Ent.reN [1] rfl, Ent.refl _⟩, ?_⟩)
  refine JS.norm ?_
  refine S_q (Ent.re [1] rfl) rfl (Q_move rfl) rfl rfl rfl ?_
  refine S_q (Ent.re [1] rfl) rfl (Q_extract (v := .int .i64 ((appL g (chB (.put k v))).2.1 : Int)) rfl rfl) rfl rfl rfl ?_
  refine S_q (Ent.re [1] rfl) rfl (Q_extract (v := .int .i64 (appL g (chB (.put k v))).2.2) rfl rfl) rfl rfl rfl ?_
  refine S_q (Ent.re [1] rfl) rfl (Q_assign rfl) rfl rfl rfl ?_
  refine S_q (Ent.re [1] rfl) rfl (Q_assign rfl) rfl rfl rfl ?_
  refine S_nil ?_
  refine seqQ_normal ?_
  refine J_seq ?_
  by_cases he : (appL g (chB (.put k v))).2.2 = 0
  · skip
    refine J_region ?_
    refine L_q (Q_move rfl) rfl rfl rfl ?_
    refine L_q ((Q_neq rfl rfl).as (v' := .bool false) (congrArg Value.bool (decide_eq_false (by omega)))) rfl rfl rfl ?_
    refine JL_nil ?_
    refine seqQ_normal ?_
    refine J_condF rfl ?_
    refine J_skip ?_
    refine seqQ_normal ?_
    refine J_seq ?_
    refine J_drawH [1] [0, 1, 2, 3, 4, 5, 6, 7] (.quiet 0 (.quiet 1 (.quiet 2 (.quiet 3 (.quiet 4 (.quiet 5 (.quiet 6 (.quiet 7 (.loud 8 .done))))))))) Tryz.mixed (by kernel_rfl) (by kernel_rfl) (by repeat (first | exact retQ_noP | refine seqQ_noP ?_ | refine blockQ_noP ?_ | refine loopQ_noP ?_ | refine scopeQ_noP ?_ | (intro _ _ _ h; cases h.1))) ?_
    refine S_q (Ent.re [1] rfl) rfl (Q_move rfl) rfl rfl rfl ?_
    refine S_q (Ent.re [1] rfl) rfl (Q_move rfl) rfl rfl rfl ?_
    refine S_q (Ent.re [1] rfl) rfl (Q_nilCheck rfl) rfl rfl rfl ?_
    refine S_q (Ent.re [1] rfl) rfl (Q_fa0 rfl) rfl rfl rfl ?_
    refine S_q (Ent.re [1] rfl) rfl (Q_ld 0 rfl rfl rfl rfl) rfl rfl rfl ?_
    refine S_q (Ent.re [1] rfl) rfl (Q_makeFunc (xs := [.tmp 20]) (ys := []) (vs := [chV (.put k v)]) (us := []) rfl rfl) rfl rfl rfl ?_
    refine S_q (Ent.re [1] rfl) rfl (Q_nilMeth metPD rfl) rfl rfl rfl ?_
    refine S_q (Ent.re [1] rfl) rfl (Q_move rfl) rfl rfl rfl ?_
    refine S_o rfl rfl rfl rfl (O_invoke [2] [0,1,3] metPD rfl rfl (putD_ok E pt l k v (by omega)) rfl ?_)
    (rintro _ _ ⟨rfl, rfl⟩; refine ⟨_, fun _ => ⟨Ent.reN [2] rfl, Ent.refl _⟩, ?_⟩)
    refine JS.norm ?_
    refine S_nil ?_
    refine seqQ_normal ?_
    refine J_seq ?_
    refine J_region ?_
    refine L_q (Q_assign rfl) rfl rfl rfl ?_
    refine JL_nil ?_
    refine seqQ_normal ?_
    refine J_ret ?_
    rw [if_pos he]
    exact retQ_ret _ [kvC p pt pl ps saved, treeA pt (putL l k v), segA pl (appL g (chB (.put k v))).1] (.cons (RV_tmp rfl) .nil) ⟨by rw [he]; rfl, rfl⟩ (Ent.re [2, 0, 1, 3] rfl)
  · skip
    refine J_region ?_
    refine L_q (Q_move rfl) rfl rfl rfl ?_
    refine L_q ((Q_neq rfl rfl).as (v' := .bool true) (congrArg Value.bool (decide_eq_true he))) rfl rfl rfl ?_
    refine JL_nil ?_
    refine seqQ_normal ?_
    refine J_condT rfl ?_
    refine J_seq ?_
    refine J_region ?_
    refine L_q (Q_move rfl) rfl rfl rfl ?_
    refine L_q (Q_assign rfl) rfl rfl rfl ?_
    refine JL_nil ?_
    refine seqQ_normal ?_
    refine J_ret ?_
    refine seqQ_ret ?_
    rw [if_neg he]
    exact retQ_ret _ [kvC p pt pl ps saved, treeA pt l, segA pl (appL g (chB (.put k v))).1] (.cons (RV_tmp rfl) .nil) ⟨rfl, rfl⟩ (Ent.re [1, 2, 0, 3] rfl)
theorem chDel_ok (E : World) (p pt pl ps c : Nat) (saved : Int) (g : Lg) (l : List Kv) (k : Ky) (hkv : k.length ≤ 1000000) (hg : Good g c) (hc : c ≤ 1000000) (hl : l.length ≤ 1000000) : Does Tryz.prog E 25 [.pointer (some ⟨p, 0, none⟩), chV (.del k)] [kvC p pt pl ps saved, treeA pt l, segA pl g] fun r L => r = .int .i64 (appL g (chB (.del k))).2.2 ∧ L = [kvC p pt pl ps saved, treeA pt (if (appL g (chB (.del k))).2.2 = 0 then delL l k else l), segA pl (appL g (chB (.del k))).1] := by
  have hb := delB_ok E k hkv
  have ha := gappend_ok E pl c g hg (by omega) (chB (.del k))
  refine Does.of Tryz.func25 rfl Tryz.ntmps25 rfl rfl fun F => ?_
  refine J.norm ?_
  refine J_seq ?_
  refine J_region ?_
  refine L_q (Q_assign rfl) rfl rfl rfl ?_
  refine JL_nil ?_
  refine seqQ_normal ?_
  refine J_seq ?_
  refine J_seq ?_
  refine J_drawH [0] [0, 1, 2, 3, 4, 7, 8, 9, 10, 11] (.quiet 0 (.quiet 1 (.quiet 2 (.quiet 3 (.quiet 4 (.loud 5 (.loud 6 (.quiet 7 (.quiet 8 (.quiet 9 (.quiet 10 (.quiet 11 .done)))))))))))) Tryz.mixed (by kernel_rfl) (by kernel_rfl) (by repeat (first | exact retQ_noP | refine seqQ_noP ?_ | refine blockQ_noP ?_ | refine loopQ_noP ?_ | refine scopeQ_noP ?_ | (intro _ _ _ h; cases h.1))) ?_
  refine S_q (Ent.re [0] rfl) rfl (Q_move rfl) rfl rfl rfl ?_
  refine S_q (Ent.re [0] rfl) rfl (Q_nilCheck rfl) rfl rfl rfl ?_
  refine S_q (Ent.re [0] rfl) rfl (Q_fa0 rfl) rfl rfl rfl ?_
  refine S_q (Ent.re [0] rfl) rfl (Q_ld 0 rfl rfl rfl rfl) rfl rfl rfl ?_
  refine S_q (Ent.re [0] rfl) rfl (Q_move rfl) rfl rfl rfl ?_
  refine S_o rfl rfl rfl rfl (O_invoke [] [0,1,2,3] metDB rfl rfl hb rfl ?_)
  (rintro _ _ ⟨rfl, rfl⟩; refine ⟨_, fun _ => ⟨Ent.reN [0] rfl, Ent.refl _⟩, ?_⟩)
  refine JS.norm ?_
  refine S_o rfl rfl rfl rfl (O_call [2] [0,1,3] ha rfl rfl ?_)
  (rintro _ _ ⟨rfl, rfl⟩; refine ⟨_, fun _ => ⟨Ent.reN [1] rfl, Ent.refl _⟩, ?_⟩)
  refine JS.norm ?_
  refine S_q (Ent.re [1] rfl) rfl (Q_move rfl) rfl rfl rfl ?_
  refine S_q (Ent.re [1] rfl) rfl (Q_extract (v := .int .i64 ((appL g (chB (.del k))).2.1 : Int)) rfl rfl) rfl rfl rfl ?_
  refine S_q (Ent.re [1] rfl) rfl (Q_extract (v := .int .i64 (appL g (chB (.del k))).2.2) rfl rfl) rfl rfl rfl ?_
  refine S_q (Ent.re [1] rfl) rfl (Q_assign rfl) rfl rfl rfl ?_
  refine S_q (Ent.re [1] rfl) rfl (Q_assign rfl) rfl rfl rfl ?_
  refine S_nil ?_
  refine seqQ_normal ?_
  refine J_seq ?_
  by_cases he : (appL g (chB (.del k))).2.2 = 0
  · skip
    refine J_region ?_
    refine L_q (Q_move rfl) rfl rfl rfl ?_
    refine L_q ((Q_neq rfl rfl).as (v' := .bool false) (congrArg Value.bool (decide_eq_false (by omega)))) rfl rfl rfl ?_
    refine JL_nil ?_
    refine seqQ_normal ?_
    refine J_condF rfl ?_
    refine J_skip ?_
    refine seqQ_normal ?_
    refine J_seq ?_
    refine J_drawH [1] [0, 1, 2, 3, 4, 5, 6, 7] (.quiet 0 (.quiet 1 (.quiet 2 (.quiet 3 (.quiet 4 (.quiet 5 (.quiet 6 (.quiet 7 (.loud 8 .done))))))))) Tryz.mixed (by kernel_rfl) (by kernel_rfl) (by repeat (first | exact retQ_noP | refine seqQ_noP ?_ | refine blockQ_noP ?_ | refine loopQ_noP ?_ | refine scopeQ_noP ?_ | (intro _ _ _ h; cases h.1))) ?_
    refine S_q (Ent.re [1] rfl) rfl (Q_move rfl) rfl rfl rfl ?_
    refine S_q (Ent.re [1] rfl) rfl (Q_move rfl) rfl rfl rfl ?_
    refine S_q (Ent.re [1] rfl) rfl (Q_nilCheck rfl) rfl rfl rfl ?_
    refine S_q (Ent.re [1] rfl) rfl (Q_fa0 rfl) rfl rfl rfl ?_
    refine S_q (Ent.re [1] rfl) rfl (Q_ld 0 rfl rfl rfl rfl) rfl rfl rfl ?_
    refine S_q (Ent.re [1] rfl) rfl (Q_makeFunc (xs := [.tmp 20]) (ys := []) (vs := [chV (.del k)]) (us := []) rfl rfl) rfl rfl rfl ?_
    refine S_q (Ent.re [1] rfl) rfl (Q_nilMeth metDD rfl) rfl rfl rfl ?_
    refine S_q (Ent.re [1] rfl) rfl (Q_move rfl) rfl rfl rfl ?_
    refine S_o rfl rfl rfl rfl (O_invoke [2] [0,1,3] metDD rfl rfl (delD_ok E pt l k (by omega)) rfl ?_)
    (rintro _ _ ⟨rfl, rfl⟩; refine ⟨_, fun _ => ⟨Ent.reN [2] rfl, Ent.refl _⟩, ?_⟩)
    refine JS.norm ?_
    refine S_nil ?_
    refine seqQ_normal ?_
    refine J_seq ?_
    refine J_region ?_
    refine L_q (Q_assign rfl) rfl rfl rfl ?_
    refine JL_nil ?_
    refine seqQ_normal ?_
    refine J_ret ?_
    rw [if_pos he]
    exact retQ_ret _ [kvC p pt pl ps saved, treeA pt (delL l k), segA pl (appL g (chB (.del k))).1] (.cons (RV_tmp rfl) .nil) ⟨by rw [he]; rfl, rfl⟩ (Ent.re [2, 0, 1, 3] rfl)
  · skip
    refine J_region ?_
    refine L_q (Q_move rfl) rfl rfl rfl ?_
    refine L_q ((Q_neq rfl rfl).as (v' := .bool true) (congrArg Value.bool (decide_eq_true he))) rfl rfl rfl ?_
    refine JL_nil ?_
    refine seqQ_normal ?_
    refine J_condT rfl ?_
    refine J_seq ?_
    refine J_region ?_
    refine L_q (Q_move rfl) rfl rfl rfl ?_
    refine L_q (Q_assign rfl) rfl rfl rfl ?_
    refine JL_nil ?_
    refine seqQ_normal ?_
    refine J_ret ?_
    refine seqQ_ret ?_
    rw [if_neg he]
    exact retQ_ret _ [kvC p pt pl ps saved, treeA pt l, segA pl (appL g (chB (.del k))).1] (.cons (RV_tmp rfl) .nil) ⟨rfl, rfl⟩ (Ent.re [1, 2, 0, 3] rfl)
end Go.Proofs
/- A store: read, synced, its numbers; a store that is none. -/
set_option autoImplicit false
namespace Go.Proofs
open Go.SL Go.Proofs.Bt
attribute [local irreducible] J JL QOp JOp seqQ blockQ loopQ retQ slc cel hex star pur stars Does RV Ent pAt scopeQ
attribute [local irreducible] nodeA nodeX treeA segA snapA
theorem kget_ok (E : World) (p pt pl ps : Nat) (saved : Int) (l : List Kv) (k : Ky) : Does Tryz.prog E 19 [.pointer (some ⟨p, 0, none⟩), str k] [kvC p pt pl ps saved, treeA pt l] fun r L => r = .tuple #[str (Bt.getL l k), .int .i64 (if hasL l k = true then 0 else 9)] ∧ L = [kvC p pt pl ps saved, treeA pt l] := by
  refine Does.of Tryz.func19 rfl Tryz.ntmps19 rfl rfl fun F => ?_
  refine J.norm ?_
  refine J_seq ?_
  refine J_region ?_
  refine L_q (Q_assign rfl) rfl rfl rfl ?_
  refine L_q (Q_assign rfl) rfl rfl rfl ?_
  refine JL_nil ?_
  refine seqQ_normal ?_
  refine J_seq ?_
  refine J_seq ?_
  refine J_region ?_
  refine L_q (Q_move rfl) rfl rfl rfl ?_
  refine L_q ((Q_pneq rfl rfl).as (v' := .bool true) rfl) rfl rfl rfl ?_
  refine JL_nil ?_
  refine seqQ_normal ?_
  refine J_condT rfl ?_
  refine J_seq ?_
  refine J_region ?_
  refine L_q (Q_move rfl) rfl rfl rfl ?_
  refine L_q (Q_nilCheck rfl) rfl rfl rfl ?_
  refine L_q (Q_fa0 rfl) rfl rfl rfl ?_
  refine L_q (Q_ld 0 rfl rfl rfl rfl) rfl rfl rfl ?_
  refine L_q (Q_move rfl) rfl rfl rfl ?_
  refine L_o rfl rfl rfl (O_call [1] [0,2] (tget_ok E pt l k) rfl rfl ?_)
  rintro _ _ ⟨rfl, rfl⟩
  refine JL.norm ?_
  refine L_q (Q_move rfl) rfl rfl rfl ?_
  refine L_q (Q_extract (v := str (Bt.getL l k)) rfl rfl) rfl rfl rfl ?_
  refine L_q (Q_extract (v := .bool (hasL l k)) rfl rfl) rfl rfl rfl ?_
  refine L_q (Q_assign rfl) rfl rfl rfl ?_
  refine L_q (Q_assign rfl) rfl rfl rfl ?_
  refine JL_nil ?_
  refine seqQ_normal ?_
  refine J_seq ?_
  cases hh : hasL l k with
  | true =>
    refine J_region ?_
    refine L_q (Q_move rfl) rfl rfl rfl ?_
    refine JL_nil ?_
    refine seqQ_normal ?_
    refine J_condT rfl ?_
    refine J_seq ?_
    refine J_region ?_
    refine L_q (Q_move rfl) rfl rfl rfl ?_
    refine L_q (Q_assign rfl) rfl rfl rfl ?_
    refine L_q (Q_assign rfl) rfl rfl rfl ?_
    refine JL_nil ?_
    refine seqQ_normal ?_
    refine J_ret ?_
    refine seqQ_ret ?_
    exact retQ_ret _ [kvC p pt pl ps saved, treeA pt l] (.cons (RV_tmp rfl) (.cons (RV_tmp rfl) .nil)) ⟨rfl, rfl⟩ (Ent.re [1, 0, 2] rfl)
  | false =>
    rw [Bt.get_not hh]
    refine J_region ?_
    refine L_q (Q_move rfl) rfl rfl rfl ?_
    refine JL_nil ?_
    refine seqQ_normal ?_
    refine J_condF rfl ?_
    refine J_skip ?_
    refine seqQ_normal ?_
    refine J_seq ?_
    refine J_region ?_
    refine L_q (Q_assign rfl) rfl rfl rfl ?_
    refine L_q (Q_assign rfl) rfl rfl rfl ?_
    refine JL_nil ?_
    refine seqQ_normal ?_
    refine J_ret ?_
    exact retQ_ret _ [kvC p pt pl ps saved, treeA pt l] (.cons (RV_tmp rfl) (.cons (RV_tmp rfl) .nil)) ⟨rfl, rfl⟩ (Ent.re [1, 0, 2] rfl)
theorem krange_ok (E : World) (p pt pl ps : Nat) (saved : Int) (l : List Kv) (f to : Ky) (most : Int) (hl : l.length ≤ 1000000) : Does Tryz.prog E 15 [.pointer (some ⟨p, 0, none⟩), str f, str to, .int .i64 most] [kvC p pt pl ps saved, treeA pt l] fun r L => ∃ S : SV, r = S.v ∧ L = [kvC p pt pl ps saved, treeA pt l, slc tKv true S (rngL l f to most)] := by
  refine Does.of Tryz.func15 rfl Tryz.ntmps15 rfl rfl fun F => ?_
  refine J.norm ?_
  refine J_seq ?_
  refine J_region ?_
  refine L_q (Q_assign rfl) rfl rfl rfl ?_
  refine JL_nil ?_
  refine seqQ_normal ?_
  refine J_seq ?_
  refine J_seq ?_
  refine J_region ?_
  refine L_q (Q_move rfl) rfl rfl rfl ?_
  refine L_q ((Q_peql rfl rfl).as (v' := .bool false) rfl) rfl rfl rfl ?_
  refine JL_nil ?_
  refine seqQ_normal ?_
  refine J_condF rfl ?_
  refine J_skip ?_
  refine seqQ_normal ?_
  refine J_seq ?_
  refine J_region ?_
  refine L_q (Q_move rfl) rfl rfl rfl ?_
  refine L_q (Q_nilCheck rfl) rfl rfl rfl ?_
  refine L_q (Q_fa0 rfl) rfl rfl rfl ?_
  refine L_q (Q_ld 0 rfl rfl rfl rfl) rfl rfl rfl ?_
  refine L_q (Q_move rfl) rfl rfl rfl ?_
  refine L_q (Q_move rfl) rfl rfl rfl ?_
  refine L_q (Q_move rfl) rfl rfl rfl ?_
  refine L_o rfl rfl rfl (O_call [1] [0,2] (trange_ok E pt l f to most hl) rfl rfl ?_)
  rintro _ _ ⟨S, rfl, rfl⟩
  refine JL.norm ?_
  refine L_q (Q_assign rfl) rfl rfl rfl ?_
  refine JL_nil ?_
  refine seqQ_normal ?_
  refine J_ret ?_
  exact retQ_ret _ [kvC p pt pl ps saved, treeA pt l, slc tKv true S (rngL l f to most)] (.cons (RV_tmp rfl) .nil) ⟨S, rfl, rfl⟩ (Ent.re [2, 0, 1, 3] rfl)
theorem kseq_ok (E : World) (p pt pl ps c : Nat) (saved : Int) (g : Lg) (hg : Good g c) (hc : c ≤ 1000000) : Does Tryz.prog E 10 [.pointer (some ⟨p, 0, none⟩)] [kvC p pt pl ps saved, segA pl g] fun r L => r = .int .i64 (nextOf g.fs : Int) ∧ L = [kvC p pt pl ps saved, segA pl g] := by
  refine Does.of Tryz.func10 rfl Tryz.ntmps10 rfl rfl fun F => ?_
  refine J.norm ?_
  refine J_seq ?_
  refine J_region ?_
  refine L_q (Q_assign rfl) rfl rfl rfl ?_
  refine JL_nil ?_
  refine seqQ_normal ?_
  refine J_seq ?_
  refine J_seq ?_
  refine J_region ?_
  refine L_q (Q_move rfl) rfl rfl rfl ?_
  refine L_q ((Q_peql rfl rfl).as (v' := .bool false) rfl) rfl rfl rfl ?_
  refine JL_nil ?_
  refine seqQ_normal ?_
  refine J_condF rfl ?_
  refine J_skip ?_
  refine seqQ_normal ?_
  refine J_seq ?_
  refine J_region ?_
  refine L_q (Q_move rfl) rfl rfl rfl ?_
  refine L_q (Q_nilCheck rfl) rfl rfl rfl ?_
  refine L_q (Q_fa0 rfl) rfl rfl rfl ?_
  refine L_q (Q_ld 0 rfl rfl rfl rfl) rfl rfl rfl ?_
  refine L_o rfl rfl rfl (O_call [1] [0,2] (gnext_ok E pl c g hg hc) rfl rfl ?_)
  rintro _ _ ⟨rfl, rfl⟩
  refine JL.norm ?_
  refine L_q (Q_assign rfl) rfl rfl rfl ?_
  refine JL_nil ?_
  refine seqQ_normal ?_
  refine J_ret ?_
  exact retQ_ret _ [kvC p pt pl ps saved, segA pl g] (.cons (RV_tmp rfl) .nil) ⟨rfl, rfl⟩ (Ent.re [1, 0, 2] rfl)
end Go.Proofs
/- A key put, a key deleted. -/
set_option autoImplicit false
namespace Go.Proofs
open Go.SL Go.Proofs.Bt
def keyB (k : Ky) : Bool := decide (k ≠ []) && decide (k.length ≤ 32)
theorem keyB_len {k : Ky} (h : keyB k = true) : k.length ≤ 32 := by
  simp [keyB] at h; exact h.2
attribute [local irreducible] J JL QOp JOp seqQ blockQ loopQ retQ slc cel hex star pur stars Does RV Ent pAt scopeQ
attribute [local irreducible] nodeA nodeX treeA segA snapA
theorem kput_ok (E : World) (p pt pl ps c : Nat) (saved : Int) (g : Lg) (l : List Kv) (k v : Ky) (hg : Good g c) (hc : c ≤ 1000000) (hl : l.length ≤ 1000000) (hk : keyB k = true) (hv : v.length ≤ 1024) : Does Tryz.prog E 11 [.pointer (some ⟨p, 0, none⟩), str k, str v] [kvC p pt pl ps saved, treeA pt l, segA pl g] fun r L => r = .int .i64 (appL g (chB (.put k v))).2.2 ∧ L = [kvC p pt pl ps saved, treeA pt (if (appL g (chB (.put k v))).2.2 = 0 then putL l k v else l), segA pl (appL g (chB (.put k v))).1] := by
  have hkey := key_ok E k
  rw [show (decide (k ≠ []) && decide (k.length ≤ 32)) = true from hk] at hkey
  refine Does.of Tryz.func11 rfl Tryz.ntmps11 rfl rfl fun F => ?_
  refine J.norm ?_
  refine J_seq ?_
  refine J_region ?_
  refine L_q (Q_assign rfl) rfl rfl rfl ?_
  refine JL_nil ?_
  refine seqQ_normal ?_
  refine J_seq ?_
  refine J_seq ?_
  refine J_region ?_
  refine L_q (Q_move rfl) rfl rfl rfl ?_
  refine L_q ((Q_peql rfl rfl).as (v' := .bool false) rfl) rfl rfl rfl ?_
  refine L_q (Q_move rfl) rfl rfl rfl ?_
  refine L_q (Q_move rfl) rfl rfl rfl ?_
  refine L_o rfl rfl rfl (O_call [] [0,1,2,3] hkey rfl rfl ?_)
  rintro _ _ ⟨rfl, rfl⟩
  refine JL.norm ?_
  refine L_q ((Q_not rfl).as (v' := .bool false) rfl) rfl rfl rfl ?_
  refine L_q (Q_pickF rfl rfl) rfl rfl rfl ?_
  refine L_q (Q_move rfl) rfl rfl rfl ?_
  refine L_q (Q_move rfl) rfl rfl rfl ?_
  refine L_q (Q_slen rfl) rfl rfl rfl ?_
  refine L_q ((Q_gtr rfl rfl).as (v' := .bool false) (congrArg Value.bool (decide_eq_false (by omega)))) rfl rfl rfl ?_
  refine L_q (Q_pickF rfl rfl) rfl rfl rfl ?_
  refine JL_nil ?_
  refine seqQ_normal ?_
  refine J_condF rfl ?_
  refine J_skip ?_
  refine seqQ_normal ?_
  refine J_seq ?_
  refine J_region ?_
  refine L_q (Q_move rfl) rfl rfl rfl ?_
  refine L_q (Q_move rfl) rfl rfl rfl ?_
  refine L_q (Q_move rfl) rfl rfl rfl ?_
  refine L_q (Q_build rfl) rfl rfl rfl ?_
  refine L_q (Q_makeInterface rfl rfl) rfl rfl rfl ?_
  refine L_o rfl rfl rfl (O_call [0,1,2] [3] (chPut_ok E p pt pl ps c saved g l k v (by have := keyB_len hk; omega) hg hc hl) rfl rfl ?_)
  rintro _ _ ⟨rfl, rfl⟩
  refine JL.norm ?_
  refine L_q (Q_assign rfl) rfl rfl rfl ?_
  refine JL_nil ?_
  refine seqQ_normal ?_
  refine J_ret ?_
  exact retQ_ret _ _ (.cons (RV_tmp rfl) .nil) ⟨rfl, rfl⟩ (Ent.refl _)
end Go.Proofs
/- Synced; of how many records it is sure. -/
set_option autoImplicit false
namespace Go.Proofs
open Go.SL Go.Proofs.Bt
attribute [local irreducible] J JL QOp JOp seqQ blockQ loopQ retQ slc cel hex star pur stars Does RV Ent pAt scopeQ
attribute [local irreducible] nodeA nodeX treeA segA snapA
theorem ksync_ok (E : World) (p pt pl ps c : Nat) (saved : Int) (g : Lg) (hg : Good g c) (hc : c ≤ 1000000) : Does Tryz.prog E 13 [.pointer (some ⟨p, 0, none⟩)] [kvC p pt pl ps saved, segA pl g] fun r L => r = .tuple #[] ∧ L = [kvC p pt pl ps saved, segA pl (syncL g)] := by
  refine Does.of Tryz.func13 rfl Tryz.ntmps13 rfl rfl fun F => ?_
  refine J.norm ?_
  refine J_seq ?_
  refine J_region ?_
  refine L_q (Q_move rfl) rfl rfl rfl ?_
  refine L_q ((Q_pneq rfl rfl).as (v' := .bool true) rfl) rfl rfl rfl ?_
  refine JL_nil ?_
  refine seqQ_normal ?_
  refine J_condT rfl ?_
  refine J_region ?_
  refine L_q (Q_move rfl) rfl rfl rfl ?_
  refine L_q (Q_nilCheck rfl) rfl rfl rfl ?_
  refine L_q (Q_fa0 rfl) rfl rfl rfl ?_
  refine L_q (Q_ld 0 rfl rfl rfl rfl) rfl rfl rfl ?_
  refine L_o rfl rfl rfl (O_call [1] [0,2] (gsync_ok E pl c g hg hc) rfl rfl ?_)
  rintro _ _ ⟨rfl, rfl⟩
  refine JL.norm ?_
  refine JL_nil ?_
  exact retQ_normal [] [kvC p pt pl ps saved, segA pl (syncL g)] .nil ⟨rfl, rfl⟩ (Ent.re [1, 0, 2] rfl)
theorem ksure_ok (E : World) (p pt pl ps : Nat) (saved : Int) (g : Lg) : Does Tryz.prog E 16 [.pointer (some ⟨p, 0, none⟩)] [kvC p pt pl ps saved, segA pl g] fun r L => r = .int .i64 (max (g.sure : Int) saved) ∧ L = [kvC p pt pl ps saved, segA pl g] := by
  refine Does.of Tryz.func16 rfl Tryz.ntmps16 rfl rfl fun F => ?_
  refine J.norm ?_
  refine J_seq ?_
  refine J_region ?_
  refine L_q (Q_assign rfl) rfl rfl rfl ?_
  refine JL_nil ?_
  refine seqQ_normal ?_
  refine J_seq ?_
  refine J_seq ?_
  refine J_region ?_
  refine L_q (Q_move rfl) rfl rfl rfl ?_
  refine L_q ((Q_peql rfl rfl).as (v' := .bool false) rfl) rfl rfl rfl ?_
  refine JL_nil ?_
  refine seqQ_normal ?_
  refine J_condF rfl ?_
  refine J_skip ?_
  refine seqQ_normal ?_
  refine J_seq ?_
  refine J_drawH [0] [0, 1, 2, 3, 5, 6, 7, 8, 9, 10] (.quiet 0 (.quiet 1 (.quiet 2 (.quiet 3 (.quiet 5 (.quiet 6 (.quiet 7 (.quiet 8 (.loud 4 (.quiet 9 (.quiet 10 .done))))))))))) Tryz.mixed (by kernel_rfl) (by kernel_rfl) (by repeat (first | exact retQ_noP | refine seqQ_noP ?_ | refine blockQ_noP ?_ | refine loopQ_noP ?_ | refine scopeQ_noP ?_ | (intro _ _ _ h; cases h.1))) ?_
  refine S_q (Ent.re [0] rfl) rfl (Q_move rfl) rfl rfl rfl ?_
  refine S_q (Ent.re [0] rfl) rfl (Q_nilCheck rfl) rfl rfl rfl ?_
  refine S_q (Ent.re [0] rfl) rfl (Q_fa0 rfl) rfl rfl rfl ?_
  refine S_q (Ent.re [0] rfl) rfl (Q_ld 0 rfl rfl rfl rfl) rfl rfl rfl ?_
  refine S_q (Ent.re [0] rfl) rfl (Q_move rfl) rfl rfl rfl ?_
  refine S_q (Ent.re [0] rfl) rfl (Q_nilCheck rfl) rfl rfl rfl ?_
  refine S_q (Ent.re [0] rfl) rfl (Q_fa0 rfl) rfl rfl rfl ?_
  refine S_q (Ent.re [0] rfl) rfl (Q_ld 0 rfl rfl rfl rfl) rfl rfl rfl ?_
  refine S_o rfl rfl rfl rfl (O_call [1] [0,2] (gsure_ok E pl g) rfl rfl ?_)
  (rintro _ _ ⟨rfl, rfl⟩; refine ⟨_, fun _ => ⟨Ent.reN [1] rfl, Ent.refl _⟩, ?_⟩)
  refine JS.norm ?_
  refine S_q (Ent.re [1] rfl) rfl (Q_max2 rfl rfl) rfl rfl rfl ?_
  refine S_q (Ent.re [1] rfl) rfl (Q_assign rfl) rfl rfl rfl ?_
  refine S_nil ?_
  refine seqQ_normal ?_
  refine J_ret ?_
  exact retQ_ret _ [kvC p pt pl ps saved, segA pl g] (.cons (RV_tmp rfl) .nil) ⟨rfl, rfl⟩ (Ent.re [1, 0, 2] rfl)
end Go.Proofs
/- A key deleted. -/
set_option autoImplicit false
namespace Go.Proofs
open Go.SL Go.Proofs.Bt
attribute [local irreducible] J JL QOp JOp seqQ blockQ loopQ retQ slc cel hex star pur stars Does RV Ent pAt scopeQ
attribute [local irreducible] nodeA nodeX treeA segA snapA
theorem kdel_ok (E : World) (p pt pl ps c : Nat) (saved : Int) (g : Lg) (l : List Kv) (k : Ky) (hg : Good g c) (hc : c ≤ 1000000) (hl : l.length ≤ 1000000) (hk : keyB k = true) (hh : hasL l k = true) : Does Tryz.prog E 12 [.pointer (some ⟨p, 0, none⟩), str k] [kvC p pt pl ps saved, treeA pt l, segA pl g] fun r L => r = .int .i64 (appL g (chB (.del k))).2.2 ∧ L = [kvC p pt pl ps saved, treeA pt (if (appL g (chB (.del k))).2.2 = 0 then delL l k else l), segA pl (appL g (chB (.del k))).1] := by
  have hkey := key_ok E k
  rw [show (decide (k ≠ []) && decide (k.length ≤ 32)) = true from hk] at hkey
  have hget := tget_ok E pt l k
  rw [hh] at hget
  refine Does.of Tryz.func12 rfl Tryz.ntmps12 rfl rfl fun F => ?_
  refine J.norm ?_
  refine J_seq ?_
  refine J_region ?_
  refine L_q (Q_assign rfl) rfl rfl rfl ?_
  refine JL_nil ?_
  refine seqQ_normal ?_
  refine J_seq ?_
  refine J_seq ?_
  refine J_region ?_
  refine L_q (Q_move rfl) rfl rfl rfl ?_
  refine L_q ((Q_peql rfl rfl).as (v' := .bool false) rfl) rfl rfl rfl ?_
  refine L_q (Q_move rfl) rfl rfl rfl ?_
  refine L_q (Q_move rfl) rfl rfl rfl ?_
  refine L_o rfl rfl rfl (O_call [] [0,1,2,3] hkey rfl rfl ?_)
  rintro _ _ ⟨rfl, rfl⟩
  refine JL.norm ?_
  refine L_q ((Q_not rfl).as (v' := .bool false) rfl) rfl rfl rfl ?_
  refine L_q (Q_pickF rfl rfl) rfl rfl rfl ?_
  refine JL_nil ?_
  refine seqQ_normal ?_
  refine J_condF rfl ?_
  refine J_skip ?_
  refine seqQ_normal ?_
  refine J_seq ?_
  refine J_seq ?_
  refine J_region ?_
  refine L_q (Q_move rfl) rfl rfl rfl ?_
  refine L_q (Q_nilCheck rfl) rfl rfl rfl ?_
  refine L_q (Q_fa0 rfl) rfl rfl rfl ?_
  refine L_q (Q_ld 0 rfl rfl rfl rfl) rfl rfl rfl ?_
  refine L_q (Q_move rfl) rfl rfl rfl ?_
  refine L_o rfl rfl rfl (O_call [1] [0,2,3] hget rfl rfl ?_)
  rintro _ _ ⟨rfl, rfl⟩
  refine JL.norm ?_
  refine L_q (Q_move rfl) rfl rfl rfl ?_
  refine L_q (Q_extract (v := str (Bt.getL l k)) rfl rfl) rfl rfl rfl ?_
  refine L_q (Q_extract (v := .bool true) rfl rfl) rfl rfl rfl ?_
  refine L_q (Q_assign rfl) rfl rfl rfl ?_
  refine L_q (Q_assign rfl) rfl rfl rfl ?_
  refine JL_nil ?_
  refine seqQ_normal ?_
  refine J_seq ?_
  refine J_region ?_
  refine L_q (Q_move rfl) rfl rfl rfl ?_
  refine L_q ((Q_not rfl).as (v' := .bool false) rfl) rfl rfl rfl ?_
  refine JL_nil ?_
  refine seqQ_normal ?_
  refine J_condF rfl ?_
  refine J_skip ?_
  refine seqQ_normal ?_
  refine J_seq ?_
  refine J_region ?_
  refine L_q (Q_move rfl) rfl rfl rfl ?_
  refine L_q (Q_move rfl) rfl rfl rfl ?_
  refine L_q (Q_build rfl) rfl rfl rfl ?_
  refine L_q (Q_makeInterface rfl rfl) rfl rfl rfl ?_
  refine L_o rfl rfl rfl (O_call [1,0,2] [3] (chDel_ok E p pt pl ps c saved g l k (by have := keyB_len hk; omega) hg hc hl) rfl rfl ?_)
  rintro _ _ ⟨rfl, rfl⟩
  refine JL.norm ?_
  refine L_q (Q_assign rfl) rfl rfl rfl ?_
  refine JL_nil ?_
  refine seqQ_normal ?_
  refine J_ret ?_
  exact retQ_ret _ _ (.cons (RV_tmp rfl) .nil) ⟨rfl, rfl⟩ (Ent.refl _)
end Go.Proofs
/- Pairs packed and unpacked, in plain Lean. -/
set_option autoImplicit false
namespace Go.Proofs
open Go.SL Go.Proofs.Bt
theorem unp_up : ∀ (l : List Kv) (p : Option Ky), Up l → (∀ q, p = some q → Abv l q) → unp p (flat (toPr l)) = some (toPr l)
  | [], _, _, _ => rfl
  | x :: l, p, hu, hp => by
    have h1 : flat (toPr (x :: l)) = x.key :: x.val :: flat (toPr l) := rfl
    have h2 : badK p x.key = false := by
      cases p with
      | none => rfl
      | some q =>
        have := hp q rfl x (by simp)
        show (!(Op.bytesLess q x.key)) = false
        rw [less_kl, this]; rfl
    have hu2 := List.pairwise_cons.1 hu
    rw [h1, unp, if_neg (by rw [h2]; simp), unp_up l (some x.key) hu2.2 (fun q hq => by cases hq; exact hu2.1)]
    rfl
theorem knextT (s r : List UInt8) (h : s.length < 2 ^ 32) : nextT (four s.length ++ s ++ r) = some (s, r) := by
  have h1 : (four s.length ++ s ++ r).drop 4 = s ++ r := rfl
  have h2 : (four s.length ++ s ++ r).take 4 = four s.length := rfl
  have h3 : be (four s.length) = s.length := by rw [be_four, Nat.mod_eq_of_lt h]
  unfold nextT
  rw [h1, h2, h3, if_neg (by simp [four_len]), if_neg (by simp)]
  simp
theorem kreadT (l : List (List UInt8)) (h : ∀ s ∈ l, s.length < 2 ^ 32) : readT (texts l) = some l := by
  induction l with
  | nil => exact readT_nil
  | cons s l ih =>
    have e : texts (s :: l) = four s.length ++ s ++ texts l := by simp [texts]
    rw [e, readT_some (by simp [four]) (knextT s _ (h s (by simp))), ih (fun t ht => h t (by simp [ht]))]
    rfl
theorem unp_pack {l : List Kv} (hu : Up l) (h : ∀ s ∈ flat (toPr l), s.length < 2 ^ 32) : unpL (texts (flat (toPr l))) = toPr l := by
  unfold unpL
  rw [unpT_some (kreadT _ h), unp_up l none hu (fun q hq => by cases hq)]
  rfl
end Go.Proofs
/- Rising pairs put one by one; a number's four bytes back. -/
set_option autoImplicit false
namespace Go.Proofs
open Go.SL Go.Proofs.Bt
def putAll (X : List Kv) (l : List Kv) : List Kv := l.foldl (fun a x => putL a x.key x.val) X
theorem putAll_up : ∀ (l X : List Kv), Up (X ++ l) → putAll X l = X ++ l
  | [], X, _ => by simp [putAll]
  | x :: l, X, hu => by
    have h1 := up_mid hu
    have h2 : putL X x.key x.val = X ++ [x] := by
      have := put_miss (X := X) (Y := []) (k := x.key) h1.1 (by intro z hz; cases hz) x.val
      rw [List.append_nil] at this
      exact this
    have h3 : Up ((X ++ [x]) ++ l) := by rw [List.append_assoc]; exact hu
    show putAll (putL X x.key x.val) l = _
    rw [h2, putAll_up l (X ++ [x]) h3, List.append_assoc]; rfl
theorem putAll_take {l : List Kv} (hu : Up l) (k : Nat) : putAll [] (l.take k) = l.take k := by
  have h : Up ([] ++ l.take k) := List.Pairwise.sublist (List.take_sublist ..) hu
  exact putAll_up _ [] h
end Go.Proofs
