/- Texts read, walked. -/
import Derived.Test.YtmmkepghmmbppaaNext
set_option autoImplicit false
namespace Go.Proofs
open Go.SL
attribute [local irreducible] J JL QOp JOp seqQ blockQ loopQ retQ slc cel hex star pur stars Does RV Ent pAt
theorem wread_ok (E : World) (s : List UInt8) (hs : s.length ≤ 100000000) : Does Try.prog E 38 [str s] [] fun v L => ∃ S : SV, v = .tuple #[S.v, .int .i64 (readE s)] ∧ L = [slc tS true S (readL s)] := by
  refine Does.of Try.func38 rfl Try.ntmps38 rfl rfl fun F => ?_
  refine J.norm ?_
  refine J_seq ?_
  refine J_region ?_
  refine L_q (Q_assign rfl) rfl rfl rfl ?_
  refine L_q (Q_assign rfl) rfl rfl rfl ?_
  refine JL_nil ?_
  refine seqQ_normal ?_
  refine J_seq ?_
  refine J_region ?_
  refine L_q (Q_assign rfl) rfl rfl rfl ?_
  refine JL_nil ?_
  refine seqQ_normal ?_
  refine J_seq ?_
  refine J_block ?_
  refine J.ent (Ent.mk fun _ _ h => (h.lay_nil tS true : Sat _ _ (slc tS true SV.nil [] :: _))) ?_
  refine J_loop (fun i : List (List UInt8) × SV × List UInt8 => readT s = (readT i.2.2).map (i.1 ++ ·) ∧ i.1.length + i.2.2.length ≤ s.length) (fun i => [(0, str i.2.2), (4, i.2.1.v)])
    (fun i => [slc tS true i.2.1 i.1, F]) (fun i => i.2.2.length) ([], SV.nil, s) ⟨by simp, by simp⟩ ⟨rfl, rfl, trivial⟩ (Ent.refl _) ?_
  rintro ⟨out, B, r⟩ ⟨h1, h2⟩
  simp only at h1 h2
  refine J_seq ?_
  refine J_seq ?_
  refine J_region ?_
  refine L_q (Q_move rfl) rfl rfl rfl ?_
  refine L_q (Q_sneq rfl rfl) rfl rfl rfl ?_
  refine JL_nil ?_
  refine seqQ_normal ?_
  refine J_condD rfl (fun h => ?_) (fun h => ?_)
  · have hn := wnext_ok E r
    cases hx : nextT r with
    | none =>
      have e : nextV r = .tuple #[str [], str [], .bool false] := by unfold nextV; rw [hx]
      have e2 : readT s = none := by rw [h1, readT_none h hx]; rfl
      have e3 : readE s = 3 := by unfold readE; rw [e2]; rfl
      have e4 : readL s = [] := by unfold readL; rw [e2]; rfl
      rw [e] at hn
      refine J_skip ?_
      refine seqQ_normal ?_
      refine J_block ?_
      refine J_seq ?_
      refine J_region ?_
      refine L_q (Q_move rfl) rfl rfl rfl ?_
      refine L_o rfl rfl rfl (O_call [] [0,1] hn rfl rfl ?_)
      rintro _ _ ⟨rfl, rfl⟩
      refine JL.norm ?_
      refine L_q (Q_move rfl) rfl rfl rfl ?_
      refine L_q (Q_extract (v := str []) rfl rfl) rfl rfl rfl ?_
      refine L_q (Q_extract (v := str []) rfl rfl) rfl rfl rfl ?_
      refine L_q (Q_extract (v := .bool false) rfl rfl) rfl rfl rfl ?_
      refine L_q (Q_assign rfl) rfl rfl rfl ?_
      refine L_q (Q_assign rfl) rfl rfl rfl ?_
      refine L_q (Q_assign rfl) rfl rfl rfl ?_
      refine JL_nil ?_
      refine seqQ_normal ?_
      refine J_seq ?_
      refine J_seq ?_
      refine J_region ?_
      refine L_q (Q_move rfl) rfl rfl rfl ?_
      refine L_q (Q_not rfl) rfl rfl rfl ?_
      refine JL_nil ?_
      refine seqQ_normal ?_
      refine J_condT rfl ?_
      refine J_seq ?_
      refine J_region ?_
      refine L_q (Q_assign rfl) rfl rfl rfl ?_
      refine L_q (Q_assign rfl) rfl rfl rfl ?_
      refine JL_nil ?_
      refine seqQ_normal ?_
      refine J_ret ?_
      refine seqQ_ret ?_
      refine blockQ_ret ?_
      refine loopQ_ret ?_
      refine blockQ_ret ?_
      refine seqQ_ret ?_
      refine retQ_ret _ [slc tS true SV.nil []] (.cons (RV_tmp rfl) (.cons (RV_tmp rfl) .nil)) ⟨SV.nil, by rw [e3]; rfl, by rw [e4]⟩ ?_
      exact (Ent.mk fun _ _ h => (h.lay_nil tS true : Sat _ _ (slc tS true SV.nil [] :: _))).trans (Ent.re [0, 2] rfl)
    | some tr =>
      obtain ⟨t, r'⟩ := tr
      have e : nextV r = .tuple #[str t, str r', .bool true] := by unfold nextV; rw [hx]
      have hlt := nextT_lt hx
      rw [e] at hn
      refine J_skip ?_
      refine seqQ_normal ?_
      refine J_block ?_
      refine J_seq ?_
      refine J_region ?_
      refine L_q (Q_move rfl) rfl rfl rfl ?_
      refine L_o rfl rfl rfl (O_call [] [0,1] hn rfl rfl ?_)
      rintro _ _ ⟨rfl, rfl⟩
      refine JL.norm ?_
      refine L_q (Q_move rfl) rfl rfl rfl ?_
      refine L_q (Q_extract (v := str t) rfl rfl) rfl rfl rfl ?_
      refine L_q (Q_extract (v := str r') rfl rfl) rfl rfl rfl ?_
      refine L_q (Q_extract (v := .bool true) rfl rfl) rfl rfl rfl ?_
      refine L_q (Q_assign rfl) rfl rfl rfl ?_
      refine L_q (Q_assign rfl) rfl rfl rfl ?_
      refine L_q (Q_assign rfl) rfl rfl rfl ?_
      refine JL_nil ?_
      refine seqQ_normal ?_
      refine J_seq ?_
      refine J_seq ?_
      refine J_region ?_
      refine L_q (Q_move rfl) rfl rfl rfl ?_
      refine L_q (Q_not rfl) rfl rfl rfl ?_
      refine JL_nil ?_
      refine seqQ_normal ?_
      refine J_condF rfl ?_
      refine J_skip ?_
      refine seqQ_normal ?_
      refine J_region ?_
      refine L_q (Q_move rfl) rfl rfl rfl ?_
      refine L_q (Q_move rfl) rfl rfl rfl ?_
      refine L_o rfl rfl rfl (O_litP (τ := tS) (m := 1) (sz := 1) [t] rfl rfl rfl rfl rfl rfl (by decide) (fun S1 => ?_))
      refine JL.norm ?_
      refine L_o rfl rfl rfl (O_app (τ := tS) 1 rfl (fun w h => h.rd 0 rfl) rfl rfl rfl rfl (by simp; omega) (by decide) (fun S2 => ?_))
      refine JL.norm ?_
      refine L_q (Q_move rfl) rfl rfl rfl ?_
      refine L_q (Q_assign rfl) rfl rfl rfl ?_
      refine L_q (Q_assign rfl) rfl rfl rfl ?_
      refine JL_nil ?_
      refine blockQ_normal ?_
      refine loopQ_normal (out ++ [t], S2, r') ⟨?_, by simp; omega⟩ hlt.1 ⟨rfl, rfl, trivial⟩ (Ent.re [1, 2] rfl)
      rw [h1, readT_some h hx]
      cases readT r' <;> simp
  · have hr : r = [] := Classical.not_not.1 h
    subst hr
    rw [readT_nil] at h1
    have e3 : readE s = 0 := by unfold readE; rw [h1]; rfl
    have e4 : readL s = out := by unfold readL; rw [h1]; simp
    refine J_exit ?_
    refine seqQ_exit ?_
    refine loopQ_exit ?_
    refine blockQ_hit ?_
    refine seqQ_normal ?_
    refine J_seq ?_
    refine J_region ?_
    refine L_q (Q_move rfl) rfl rfl rfl ?_
    refine L_q (Q_assign rfl) rfl rfl rfl ?_
    refine L_q (Q_assign rfl) rfl rfl rfl ?_
    refine JL_nil ?_
    refine seqQ_normal ?_
    refine J_ret ?_
    exact retQ_ret _ [slc tS true B out] (.cons (RV_tmp rfl) (.cons (RV_tmp rfl) .nil)) ⟨B, by rw [e3]; rfl, by rw [e4]⟩ (Ent.refl _)
end Go.Proofs
