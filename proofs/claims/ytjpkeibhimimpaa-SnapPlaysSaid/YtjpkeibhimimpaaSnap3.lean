/- What is written into slots, and told of them. -/
import Derived.Test.YtjpkeibhimimpaaSnap2
set_option autoImplicit false
namespace Go.Proofs
open Go.SL
attribute [local irreducible] J JL QOp JOp seqQ blockQ loopQ retQ slc cel hex star pur stars Does RV Ent pAt
theorem four_ok (E : World) (n : Nat) : Does Try.prog E 24 [.int .u32 (n : Int)] [] fun v L => ∃ S : SV, v = S.v ∧ L = [slc tB true S (four n)] := by
  refine Does.of Try.func24 rfl Try.ntmps24 rfl rfl fun F => ?_
  refine J.norm ?_
  repeat first
    | refine J_seq ?_
    | refine seqQ_normal ?_
    | refine J_condT rfl ?_
    | refine J_condF rfl ?_
    | refine J_block ?_
    | refine blockQ_normal ?_
    | refine J_exit ?_
    | refine seqQ_exit ?_
    | refine blockQ_hit ?_
    | refine blockQ_miss rfl ?_
    | refine J_skip ?_
    | refine J_ret ?_
    | refine seqQ_ret ?_
    | refine blockQ_ret ?_
    | refine loopQ_exit ?_
    | refine loopQ_ret ?_
    | refine J_label ?_
  refine J_region ?_
  refine L_q (Q_assign rfl) rfl rfl rfl ?_
  refine JL_nil ?_
  repeat first
    | refine J_seq ?_
    | refine seqQ_normal ?_
    | refine J_condT rfl ?_
    | refine J_condF rfl ?_
    | refine J_block ?_
    | refine blockQ_normal ?_
    | refine J_exit ?_
    | refine seqQ_exit ?_
    | refine blockQ_hit ?_
    | refine blockQ_miss rfl ?_
    | refine J_skip ?_
    | refine J_ret ?_
    | refine seqQ_ret ?_
    | refine blockQ_ret ?_
    | refine loopQ_exit ?_
    | refine loopQ_ret ?_
    | refine J_label ?_
  repeat first
    | refine J_seq ?_
    | refine seqQ_normal ?_
    | refine J_condT rfl ?_
    | refine J_condF rfl ?_
    | refine J_block ?_
    | refine blockQ_normal ?_
    | refine J_exit ?_
    | refine seqQ_exit ?_
    | refine blockQ_hit ?_
    | refine blockQ_miss rfl ?_
    | refine J_skip ?_
    | refine J_ret ?_
    | refine seqQ_ret ?_
    | refine blockQ_ret ?_
    | refine loopQ_exit ?_
    | refine loopQ_ret ?_
    | refine J_label ?_
  refine J_region ?_
  refine L_q (Q_move rfl) rfl rfl rfl ?_
  refine L_q (Q_shrN n 24 rfl rfl rfl rfl (by decide)) rfl rfl rfl ?_
  refine L_q (Q_cvtN (n / 2 ^ 24) rfl rfl) rfl rfl rfl ?_
  refine L_q (Q_move rfl) rfl rfl rfl ?_
  refine L_q (Q_shrN n 16 rfl rfl rfl rfl (by decide)) rfl rfl rfl ?_
  refine L_q (Q_cvtN (n / 2 ^ 16) rfl rfl) rfl rfl rfl ?_
  refine L_q (Q_move rfl) rfl rfl rfl ?_
  refine L_q (Q_shrN n 8 rfl rfl rfl rfl (by decide)) rfl rfl rfl ?_
  refine L_q (Q_cvtN (n / 2 ^ 8) rfl rfl) rfl rfl rfl ?_
  refine L_q (Q_move rfl) rfl rfl rfl ?_
  refine L_q (Q_cvtN n rfl rfl) rfl rfl rfl ?_
  refine L_o rfl rfl rfl (O_litP (τ := tB) (m := 4) (sz := 1) (four n) rfl rfl rfl rfl rfl rfl (by decide) (fun S => ?_))
  refine JL.norm ?_
  refine L_q (Q_assign rfl) rfl rfl rfl ?_
  refine JL_nil ?_
  repeat first
    | refine J_seq ?_
    | refine seqQ_normal ?_
    | refine J_condT rfl ?_
    | refine J_condF rfl ?_
    | refine J_block ?_
    | refine blockQ_normal ?_
    | refine J_exit ?_
    | refine seqQ_exit ?_
    | refine blockQ_hit ?_
    | refine blockQ_miss rfl ?_
    | refine J_skip ?_
    | refine J_ret ?_
    | refine seqQ_ret ?_
    | refine blockQ_ret ?_
    | refine loopQ_exit ?_
    | refine loopQ_ret ?_
    | refine J_label ?_
  exact retQ_ret _ [slc tB true S (four n)] (.cons (RV_tmp rfl) .nil) ⟨S, rfl, rfl⟩ (Ent.refl _)
theorem snew_ok (E : World) : Does Try.prog E 10 [] [] fun v L => ∃ p, v = .pointer (some ⟨p, 0, none⟩) ∧ L = [cel p [SV.nil.v, SV.nil.v] 59, slc tB true SV.nil [], slc tB true SV.nil []] := by
  refine Does.of Try.func10 rfl Try.ntmps10 rfl rfl fun F => ?_
  refine J.norm ?_
  repeat first
    | refine J_seq ?_
    | refine seqQ_normal ?_
    | refine J_condT rfl ?_
    | refine J_condF rfl ?_
    | refine J_block ?_
    | refine blockQ_normal ?_
    | refine J_exit ?_
    | refine seqQ_exit ?_
    | refine blockQ_hit ?_
    | refine blockQ_miss rfl ?_
    | refine J_skip ?_
    | refine J_ret ?_
    | refine seqQ_ret ?_
    | refine blockQ_ret ?_
    | refine loopQ_exit ?_
    | refine loopQ_ret ?_
    | refine J_label ?_
  refine J_region ?_
  refine L_q (Q_assign rfl) rfl rfl rfl ?_
  refine JL_nil ?_
  repeat first
    | refine J_seq ?_
    | refine seqQ_normal ?_
    | refine J_condT rfl ?_
    | refine J_condF rfl ?_
    | refine J_block ?_
    | refine blockQ_normal ?_
    | refine J_exit ?_
    | refine seqQ_exit ?_
    | refine blockQ_hit ?_
    | refine blockQ_miss rfl ?_
    | refine J_skip ?_
    | refine J_ret ?_
    | refine seqQ_ret ?_
    | refine blockQ_ret ?_
    | refine loopQ_exit ?_
    | refine loopQ_ret ?_
    | refine J_label ?_
  repeat first
    | refine J_seq ?_
    | refine seqQ_normal ?_
    | refine J_condT rfl ?_
    | refine J_condF rfl ?_
    | refine J_block ?_
    | refine blockQ_normal ?_
    | refine J_exit ?_
    | refine seqQ_exit ?_
    | refine blockQ_hit ?_
    | refine blockQ_miss rfl ?_
    | refine J_skip ?_
    | refine J_ret ?_
    | refine seqQ_ret ?_
    | refine blockQ_ret ?_
    | refine loopQ_exit ?_
    | refine loopQ_ret ?_
    | refine J_label ?_
  refine J_region ?_
  refine L_q (Q_build rfl) rfl rfl rfl ?_
  refine L_o rfl rfl rfl (O_box rfl fun b2 => ?_)
  refine L_q (Q_assign rfl) rfl rfl rfl ?_
  refine JL_nil ?_
  repeat first
    | refine J_seq ?_
    | refine seqQ_normal ?_
    | refine J_condT rfl ?_
    | refine J_condF rfl ?_
    | refine J_block ?_
    | refine blockQ_normal ?_
    | refine J_exit ?_
    | refine seqQ_exit ?_
    | refine blockQ_hit ?_
    | refine blockQ_miss rfl ?_
    | refine J_skip ?_
    | refine J_ret ?_
    | refine seqQ_ret ?_
    | refine blockQ_ret ?_
    | refine loopQ_exit ?_
    | refine loopQ_ret ?_
    | refine J_label ?_
  refine retQ_ret _ [cel b2 [SV.nil.v, SV.nil.v] 59, slc tB true SV.nil [], slc tB true SV.nil []] (.cons (RV_tmp rfl) .nil) ⟨b2, rfl, rfl⟩ ?_
  exact (Ent.mk fun _ _ h => ((h.lay_nil tB true).lay_nil tB true : Sat _ _ (slc tB true SV.nil [] :: slc tB true SV.nil [] :: _))).trans (Ent.re [2, 0, 1, 3] rfl)

/-- What is written. -/
def wrote (a b body : List UInt8) (upto : Int) : List UInt8 :=
  let g := if told a b = 1 then nw b 1 else if told a b = 0 then nw a 1 else 0
  let t := four ((g + 1) % 2 ^ 32) ++ four (body.length % 2 ^ 32) ++ body
  let u := four (crc t) ++ t
  if 0 ≤ upto ∧ upto < (u.length : Int) then u.take upto.toNat else u
theorem told_cases (a b : List UInt8) : (told a b = 1 ∧ rightB b = true) ∨ (told a b = 0 ∧ rightB a = true) ∨ told a b = -1 := by
  unfold told
  split
  · rename_i h; exact .inl ⟨rfl, h.1⟩
  · split
    · rename_i h; exact .inr (.inl ⟨rfl, h⟩)
    · exact .inr (.inr rfl)
theorem right_long {l : List UInt8} (h : rightB l = true) : 12 ≤ l.length := by
  simp only [rightB, Bool.and_eq_true, decide_eq_true_eq] at h; exact h.1
/-- What the slots are behind a write; the error. -/
def doW (a b body : List UInt8) (upto : Int) : List UInt8 × List UInt8 × Int :=
  if 32768 < body.length then (a, b, 2) else if told a b = 0 then (a, wrote a b body upto, 0) else (wrote a b body upto, b, 0)
end Go.Proofs
