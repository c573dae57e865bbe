/- What is told of the slots, and a byte spoilt. -/
import Derived.Test.YtjpkeibhimimpaaSnap4
set_option autoImplicit false
namespace Go.Proofs
open Go.SL
attribute [local irreducible] J JL QOp JOp seqQ blockQ loopQ retQ slc cel hex star pur stars Does RV Ent pAt
/-- What a load tells. -/
def loadT (a b : List UInt8) : List UInt8 := if told a b = 1 then b.drop 12 else if told a b = 0 then a.drop 12 else []
def loadN (a b : List UInt8) : Nat := if told a b = 1 then nw b 1 else if told a b = 0 then nw a 1 else 0
theorem load_ok (E : World) (p : Nat) (S T : SV) (a b : List UInt8) (ha : a.length ≤ 100000) (hb : b.length ≤ 100000) :
    Does Try.prog E 12 [.pointer (some ⟨p, 0, none⟩)] [cel p [S.v, T.v] 59, slc tB true S a, slc tB true T b] fun v L => v = .tuple #[str (loadT a b), .int .i64 (loadN a b : Int)] ∧ L = [cel p [S.v, T.v] 59, slc tB true S a, slc tB true T b] := by
  have ht := told_ok E p S T a b ha hb
  refine Does.of Try.func12 rfl Try.ntmps12 rfl rfl fun F => ?_
  refine J.norm ?_
  repeat first
    | refine J_seq ?_
    | refine seqQ_normal ?_
    | refine J_condT rfl ?_
    | refine J_condF rfl ?_
    | refine J_block ?_
    | refine blockQ_normal ?_
    | refine J_exit ?_
    | refine seqQ_exit ?_
    | refine blockQ_hit ?_
    | refine blockQ_miss rfl ?_
    | refine J_skip ?_
    | refine J_ret ?_
    | refine seqQ_ret ?_
    | refine blockQ_ret ?_
    | refine loopQ_exit ?_
    | refine loopQ_ret ?_
    | refine J_label ?_
  refine J_region ?_
  refine L_q (Q_assign rfl) rfl rfl rfl ?_
  refine L_q (Q_assign rfl) rfl rfl rfl ?_
  refine JL_nil ?_
  repeat first
    | refine J_seq ?_
    | refine seqQ_normal ?_
    | refine J_condT rfl ?_
    | refine J_condF rfl ?_
    | refine J_block ?_
    | refine blockQ_normal ?_
    | refine J_exit ?_
    | refine seqQ_exit ?_
    | refine blockQ_hit ?_
    | refine blockQ_miss rfl ?_
    | refine J_skip ?_
    | refine J_ret ?_
    | refine seqQ_ret ?_
    | refine blockQ_ret ?_
    | refine loopQ_exit ?_
    | refine loopQ_ret ?_
    | refine J_label ?_
  repeat first
    | refine J_seq ?_
    | refine seqQ_normal ?_
    | refine J_condT rfl ?_
    | refine J_condF rfl ?_
    | refine J_block ?_
    | refine blockQ_normal ?_
    | refine J_exit ?_
    | refine seqQ_exit ?_
    | refine blockQ_hit ?_
    | refine blockQ_miss rfl ?_
    | refine J_skip ?_
    | refine J_ret ?_
    | refine seqQ_ret ?_
    | refine blockQ_ret ?_
    | refine loopQ_exit ?_
    | refine loopQ_ret ?_
    | refine J_label ?_
  refine J_region ?_
  refine L_q (Q_move rfl) rfl rfl rfl ?_
  refine L_q (Q_peql rfl rfl) rfl rfl rfl ?_
  refine JL_nil ?_
  repeat first
    | refine J_seq ?_
    | refine seqQ_normal ?_
    | refine J_condT rfl ?_
    | refine J_condF rfl ?_
    | refine J_block ?_
    | refine blockQ_normal ?_
    | refine J_exit ?_
    | refine seqQ_exit ?_
    | refine blockQ_hit ?_
    | refine blockQ_miss rfl ?_
    | refine J_skip ?_
    | refine J_ret ?_
    | refine seqQ_ret ?_
    | refine blockQ_ret ?_
    | refine loopQ_exit ?_
    | refine loopQ_ret ?_
    | refine J_label ?_
  rcases told_cases a b with ⟨e, hr⟩ | ⟨e, hr⟩ | e
  · rw [e] at ht
    have hl := right_long hr
    have h1 : loadT a b = b.drop 12 := by simp only [loadT, if_pos e]
    have h2 : loadN a b = nw b 1 := by simp only [loadN, if_pos e]
    have hn := nw_lt b 1
    repeat first
      | refine J_seq ?_
      | refine seqQ_normal ?_
      | refine J_condT rfl ?_
      | refine J_condF rfl ?_
      | refine J_block ?_
      | refine blockQ_normal ?_
      | refine J_exit ?_
      | refine seqQ_exit ?_
      | refine blockQ_hit ?_
      | refine blockQ_miss rfl ?_
      | refine J_skip ?_
      | refine J_ret ?_
      | refine seqQ_ret ?_
      | refine blockQ_ret ?_
      | refine loopQ_exit ?_
      | refine loopQ_ret ?_
      | refine J_label ?_
    refine J_region ?_
    refine L_q (Q_move rfl) rfl rfl rfl ?_
    refine L_o rfl rfl rfl (O_call [0,1,2] [3] ht rfl rfl ?_)
    rintro _ _ ⟨rfl, rfl⟩
    refine JL.norm ?_
    refine L_q (Q_assign rfl) rfl rfl rfl ?_
    refine JL_nil ?_
    repeat first
      | refine J_seq ?_
      | refine seqQ_normal ?_
      | refine J_condT rfl ?_
      | refine J_condF rfl ?_
      | refine J_block ?_
      | refine blockQ_normal ?_
      | refine J_exit ?_
      | refine seqQ_exit ?_
      | refine blockQ_hit ?_
      | refine blockQ_miss rfl ?_
      | refine J_skip ?_
      | refine J_ret ?_
      | refine seqQ_ret ?_
      | refine blockQ_ret ?_
      | refine loopQ_exit ?_
      | refine loopQ_ret ?_
      | refine J_label ?_
    repeat first
      | refine J_seq ?_
      | refine seqQ_normal ?_
      | refine J_condT rfl ?_
      | refine J_condF rfl ?_
      | refine J_block ?_
      | refine blockQ_normal ?_
      | refine J_exit ?_
      | refine seqQ_exit ?_
      | refine blockQ_hit ?_
      | refine blockQ_miss rfl ?_
      | refine J_skip ?_
      | refine J_ret ?_
      | refine seqQ_ret ?_
      | refine blockQ_ret ?_
      | refine loopQ_exit ?_
      | refine loopQ_ret ?_
      | refine J_label ?_
    refine J_region ?_
    refine L_q (Q_move rfl) rfl rfl rfl ?_
    refine L_q (Q_lss rfl rfl) rfl rfl rfl ?_
    refine JL_nil ?_
    repeat first
      | refine J_seq ?_
      | refine seqQ_normal ?_
      | refine J_condT rfl ?_
      | refine J_condF rfl ?_
      | refine J_block ?_
      | refine blockQ_normal ?_
      | refine J_exit ?_
      | refine seqQ_exit ?_
      | refine blockQ_hit ?_
      | refine blockQ_miss rfl ?_
      | refine J_skip ?_
      | refine J_ret ?_
      | refine seqQ_ret ?_
      | refine blockQ_ret ?_
      | refine loopQ_exit ?_
      | refine loopQ_ret ?_
      | refine J_label ?_
    repeat first
      | refine J_seq ?_
      | refine seqQ_normal ?_
      | refine J_condT rfl ?_
      | refine J_condF rfl ?_
      | refine J_block ?_
      | refine blockQ_normal ?_
      | refine J_exit ?_
      | refine seqQ_exit ?_
      | refine blockQ_hit ?_
      | refine blockQ_miss rfl ?_
      | refine J_skip ?_
      | refine J_ret ?_
      | refine seqQ_ret ?_
      | refine blockQ_ret ?_
      | refine loopQ_exit ?_
      | refine loopQ_ret ?_
      | refine J_label ?_
    refine J_region ?_
    refine L_q (Q_move rfl) rfl rfl rfl ?_
    refine L_q (Q_move rfl) rfl rfl rfl ?_
    first
      | refine L_q (Q_pnil rfl) rfl rfl rfl ?_
      | refine L_q (Q_nilCheck rfl) rfl rfl rfl ?_
    first
      | refine L_q (Q_fa0 rfl) rfl rfl rfl ?_
      | refine L_q (Q_fa rfl rfl) rfl rfl rfl ?_
      | refine L_q (Q_pfa rfl) rfl rfl rfl ?_
    refine L_q (Q_ia (o' := 1) 1 rfl rfl rfl (by decide) (by decide)) rfl rfl rfl ?_
    first
      | refine L_q (Q_ldA 0 rfl rfl rfl) rfl rfl rfl ?_
      | refine L_q (Q_ldA 1 rfl rfl rfl) rfl rfl rfl ?_
      | refine L_q (Q_ldA 2 rfl rfl rfl) rfl rfl rfl ?_
      | refine L_q (Q_ldA 3 rfl rfl rfl) rfl rfl rfl ?_
      | refine L_q (Q_ldA 4 rfl rfl rfl) rfl rfl rfl ?_
    refine L_o rfl rfl rfl (O_alloc fun b5 => ?_)
    first
      | refine L_s rfl rfl (O_stW 0 rfl rfl rfl rfl ?_)
      | refine L_s rfl rfl (O_stW 1 rfl rfl rfl rfl ?_)
      | refine L_s rfl rfl (O_stW 2 rfl rfl rfl rfl ?_)
      | refine L_s rfl rfl (O_stW 3 rfl rfl rfl rfl ?_)
      | refine L_s rfl rfl (O_stW 4 rfl rfl rfl rfl ?_)
    refine JL.norm ?_
    refine JL_nil ?_
    repeat first
      | refine J_seq ?_
      | refine seqQ_normal ?_
      | refine J_condT rfl ?_
      | refine J_condF rfl ?_
      | refine J_block ?_
      | refine blockQ_normal ?_
      | refine J_exit ?_
      | refine seqQ_exit ?_
      | refine blockQ_hit ?_
      | refine blockQ_miss rfl ?_
      | refine J_skip ?_
      | refine J_ret ?_
      | refine seqQ_ret ?_
      | refine blockQ_ret ?_
      | refine loopQ_exit ?_
      | refine loopQ_ret ?_
      | refine J_label ?_
    repeat first
      | refine J_seq ?_
      | refine seqQ_normal ?_
      | refine J_condT rfl ?_
      | refine J_condF rfl ?_
      | refine J_block ?_
      | refine blockQ_normal ?_
      | refine J_exit ?_
      | refine seqQ_exit ?_
      | refine blockQ_hit ?_
      | refine blockQ_miss rfl ?_
      | refine J_skip ?_
      | refine J_ret ?_
      | refine seqQ_ret ?_
      | refine blockQ_ret ?_
      | refine loopQ_exit ?_
      | refine loopQ_ret ?_
      | refine J_label ?_
    refine J_drawH [0,3] [0, 1, 2, 3, 4, 6, 7, 8, 9] (.quiet 0 (.quiet 1 (.quiet 2 (.quiet 3 (.quiet 4 (.loud 5 (.quiet 6 (.quiet 7 (.quiet 8 (.quiet 9 .done)))))))))) Try.mixed (by kernel_rfl) (by kernel_rfl) (by repeat (first | exact retQ_noP | refine seqQ_noP ?_ | refine blockQ_noP ?_ | refine loopQ_noP ?_)) ?_
    first
      | refine S_q (Ent.re [0,3] rfl) rfl (Q_fa0 rfl) rfl rfl rfl ?_
      | refine S_q (Ent.re [0,3] rfl) rfl (Q_fa rfl rfl) rfl rfl rfl ?_
      | refine S_q (Ent.re [0,3] rfl) rfl (Q_pfa rfl) rfl rfl rfl ?_
    first
      | refine S_q (Ent.re [0,3] rfl) rfl (Q_ld 0 rfl rfl rfl rfl) rfl rfl rfl ?_
      | refine S_q (Ent.re [0,3] rfl) rfl (Q_ld 1 rfl rfl rfl rfl) rfl rfl rfl ?_
      | refine S_q (Ent.re [0,3] rfl) rfl (Q_ld 2 rfl rfl rfl rfl) rfl rfl rfl ?_
      | refine S_q (Ent.re [0,3] rfl) rfl (Q_ld 3 rfl rfl rfl rfl) rfl rfl rfl ?_
      | refine S_q (Ent.re [0,3] rfl) rfl (Q_ld 4 rfl rfl rfl rfl) rfl rfl rfl ?_
    refine S_q (Ent.re [0,3] rfl) rfl (Q_slL 12 (fun w h => h.rd 1 rfl) rfl rfl rfl hl rfl) rfl rfl rfl ?_
    refine S_q (Ent.re [0,3] rfl) rfl (Q_b2s tB_enc (fun w h => (h.rd 1 rfl).sub 12 b.length hl (Nat.le_refl _)) rfl) rfl rfl rfl ?_
    first
      | refine S_q (Ent.re [0,3] rfl) rfl (Q_ldA 0 rfl rfl rfl) rfl rfl rfl ?_
      | refine S_q (Ent.re [0,3] rfl) rfl (Q_ldA 1 rfl rfl rfl) rfl rfl rfl ?_
      | refine S_q (Ent.re [0,3] rfl) rfl (Q_ldA 2 rfl rfl rfl) rfl rfl rfl ?_
      | refine S_q (Ent.re [0,3] rfl) rfl (Q_ldA 3 rfl rfl rfl) rfl rfl rfl ?_
      | refine S_q (Ent.re [0,3] rfl) rfl (Q_ldA 4 rfl rfl rfl) rfl rfl rfl ?_
    refine S_o rfl rfl rfl rfl (O_call [3] [0,1,2,4] (words_ok E T b hl) rfl rfl ?_)
    (rintro _ _ ⟨rfl, rfl⟩; refine ⟨_, fun _ => ⟨Ent.reN [1,0] rfl, Ent.refl _⟩, ?_⟩)
    refine JS.norm ?_
    refine S_q (Ent.re [1,0] rfl) rfl (Q_aiS (v' := .int .u32 (nw b 1 : Int)) 1 rfl rfl rfl (by decide) rfl rfl) rfl rfl rfl ?_
    refine S_q (Ent.re [1,0] rfl) rfl (Q_cvt rfl (IntWalk.i64_in _ (by omega))) rfl rfl rfl ?_
    refine S_q (Ent.re [1,0] rfl) rfl (Q_assign rfl) rfl rfl rfl ?_
    refine S_q (Ent.re [1,0] rfl) rfl (Q_assign rfl) rfl rfl rfl ?_
    refine S_nil ?_
    repeat first
      | refine J_seq ?_
      | refine seqQ_normal ?_
      | refine J_condT rfl ?_
      | refine J_condF rfl ?_
      | refine J_block ?_
      | refine blockQ_normal ?_
      | refine J_exit ?_
      | refine seqQ_exit ?_
      | refine blockQ_hit ?_
      | refine blockQ_miss rfl ?_
      | refine J_skip ?_
      | refine J_ret ?_
      | refine seqQ_ret ?_
      | refine blockQ_ret ?_
      | refine loopQ_exit ?_
      | refine loopQ_ret ?_
      | refine J_label ?_
    rw [List.take_length]
    exact retQ_ret _ [cel p [S.v, T.v] 59, slc tB true S a, slc tB true T b] (.cons (RV_tmp rfl) (.cons (RV_tmp rfl) .nil)) ⟨by rw [h1, h2]; rfl, rfl⟩ (Ent.re [2, 3, 0, 4] rfl)
  · rw [e] at ht
    have hl := right_long hr
    have h1 : loadT a b = a.drop 12 := by simp only [loadT, e]; rfl
    have h2 : loadN a b = nw a 1 := by simp only [loadN, e]; rfl
    have hn := nw_lt a 1
    repeat first
      | refine J_seq ?_
      | refine seqQ_normal ?_
      | refine J_condT rfl ?_
      | refine J_condF rfl ?_
      | refine J_block ?_
      | refine blockQ_normal ?_
      | refine J_exit ?_
      | refine seqQ_exit ?_
      | refine blockQ_hit ?_
      | refine blockQ_miss rfl ?_
      | refine J_skip ?_
      | refine J_ret ?_
      | refine seqQ_ret ?_
      | refine blockQ_ret ?_
      | refine loopQ_exit ?_
      | refine loopQ_ret ?_
      | refine J_label ?_
    refine J_region ?_
    refine L_q (Q_move rfl) rfl rfl rfl ?_
    refine L_o rfl rfl rfl (O_call [0,1,2] [3] ht rfl rfl ?_)
    rintro _ _ ⟨rfl, rfl⟩
    refine JL.norm ?_
    refine L_q (Q_assign rfl) rfl rfl rfl ?_
    refine JL_nil ?_
    repeat first
      | refine J_seq ?_
      | refine seqQ_normal ?_
      | refine J_condT rfl ?_
      | refine J_condF rfl ?_
      | refine J_block ?_
      | refine blockQ_normal ?_
      | refine J_exit ?_
      | refine seqQ_exit ?_
      | refine blockQ_hit ?_
      | refine blockQ_miss rfl ?_
      | refine J_skip ?_
      | refine J_ret ?_
      | refine seqQ_ret ?_
      | refine blockQ_ret ?_
      | refine loopQ_exit ?_
      | refine loopQ_ret ?_
      | refine J_label ?_
    repeat first
      | refine J_seq ?_
      | refine seqQ_normal ?_
      | refine J_condT rfl ?_
      | refine J_condF rfl ?_
      | refine J_block ?_
      | refine blockQ_normal ?_
      | refine J_exit ?_
      | refine seqQ_exit ?_
      | refine blockQ_hit ?_
      | refine blockQ_miss rfl ?_
      | refine J_skip ?_
      | refine J_ret ?_
      | refine seqQ_ret ?_
      | refine blockQ_ret ?_
      | refine loopQ_exit ?_
      | refine loopQ_ret ?_
      | refine J_label ?_
    refine J_region ?_
    refine L_q (Q_move rfl) rfl rfl rfl ?_
    refine L_q (Q_lss rfl rfl) rfl rfl rfl ?_
    refine JL_nil ?_
    repeat first
      | refine J_seq ?_
      | refine seqQ_normal ?_
      | refine J_condT rfl ?_
      | refine J_condF rfl ?_
      | refine J_block ?_
      | refine blockQ_normal ?_
      | refine J_exit ?_
      | refine seqQ_exit ?_
      | refine blockQ_hit ?_
      | refine blockQ_miss rfl ?_
      | refine J_skip ?_
      | refine J_ret ?_
      | refine seqQ_ret ?_
      | refine blockQ_ret ?_
      | refine loopQ_exit ?_
      | refine loopQ_ret ?_
      | refine J_label ?_
    repeat first
      | refine J_seq ?_
      | refine seqQ_normal ?_
      | refine J_condT rfl ?_
      | refine J_condF rfl ?_
      | refine J_block ?_
      | refine blockQ_normal ?_
      | refine J_exit ?_
      | refine seqQ_exit ?_
      | refine blockQ_hit ?_
      | refine blockQ_miss rfl ?_
      | refine J_skip ?_
      | refine J_ret ?_
      | refine seqQ_ret ?_
      | refine blockQ_ret ?_
      | refine loopQ_exit ?_
      | refine loopQ_ret ?_
      | refine J_label ?_
    refine J_region ?_
    refine L_q (Q_move rfl) rfl rfl rfl ?_
    refine L_q (Q_move rfl) rfl rfl rfl ?_
    first
      | refine L_q (Q_pnil rfl) rfl rfl rfl ?_
      | refine L_q (Q_nilCheck rfl) rfl rfl rfl ?_
    first
      | refine L_q (Q_fa0 rfl) rfl rfl rfl ?_
      | refine L_q (Q_fa rfl rfl) rfl rfl rfl ?_
      | refine L_q (Q_pfa rfl) rfl rfl rfl ?_
    refine L_q (Q_ia (o' := 0) 0 rfl rfl rfl (by decide) (by decide)) rfl rfl rfl ?_
    first
      | refine L_q (Q_ldA 0 rfl rfl rfl) rfl rfl rfl ?_
      | refine L_q (Q_ldA 1 rfl rfl rfl) rfl rfl rfl ?_
      | refine L_q (Q_ldA 2 rfl rfl rfl) rfl rfl rfl ?_
      | refine L_q (Q_ldA 3 rfl rfl rfl) rfl rfl rfl ?_
      | refine L_q (Q_ldA 4 rfl rfl rfl) rfl rfl rfl ?_
    refine L_o rfl rfl rfl (O_alloc fun b5 => ?_)
    first
      | refine L_s rfl rfl (O_stW 0 rfl rfl rfl rfl ?_)
      | refine L_s rfl rfl (O_stW 1 rfl rfl rfl rfl ?_)
      | refine L_s rfl rfl (O_stW 2 rfl rfl rfl rfl ?_)
      | refine L_s rfl rfl (O_stW 3 rfl rfl rfl rfl ?_)
      | refine L_s rfl rfl (O_stW 4 rfl rfl rfl rfl ?_)
    refine JL.norm ?_
    refine JL_nil ?_
    repeat first
      | refine J_seq ?_
      | refine seqQ_normal ?_
      | refine J_condT rfl ?_
      | refine J_condF rfl ?_
      | refine J_block ?_
      | refine blockQ_normal ?_
      | refine J_exit ?_
      | refine seqQ_exit ?_
      | refine blockQ_hit ?_
      | refine blockQ_miss rfl ?_
      | refine J_skip ?_
      | refine J_ret ?_
      | refine seqQ_ret ?_
      | refine blockQ_ret ?_
      | refine loopQ_exit ?_
      | refine loopQ_ret ?_
      | refine J_label ?_
    repeat first
      | refine J_seq ?_
      | refine seqQ_normal ?_
      | refine J_condT rfl ?_
      | refine J_condF rfl ?_
      | refine J_block ?_
      | refine blockQ_normal ?_
      | refine J_exit ?_
      | refine seqQ_exit ?_
      | refine blockQ_hit ?_
      | refine blockQ_miss rfl ?_
      | refine J_skip ?_
      | refine J_ret ?_
      | refine seqQ_ret ?_
      | refine blockQ_ret ?_
      | refine loopQ_exit ?_
      | refine loopQ_ret ?_
      | refine J_label ?_
    refine J_drawH [0,2] [0, 1, 2, 3, 4, 6, 7, 8, 9] (.quiet 0 (.quiet 1 (.quiet 2 (.quiet 3 (.quiet 4 (.loud 5 (.quiet 6 (.quiet 7 (.quiet 8 (.quiet 9 .done)))))))))) Try.mixed (by kernel_rfl) (by kernel_rfl) (by repeat (first | exact retQ_noP | refine seqQ_noP ?_ | refine blockQ_noP ?_ | refine loopQ_noP ?_)) ?_
    first
      | refine S_q (Ent.re [0,2] rfl) rfl (Q_fa0 rfl) rfl rfl rfl ?_
      | refine S_q (Ent.re [0,2] rfl) rfl (Q_fa rfl rfl) rfl rfl rfl ?_
      | refine S_q (Ent.re [0,2] rfl) rfl (Q_pfa rfl) rfl rfl rfl ?_
    first
      | refine S_q (Ent.re [0,2] rfl) rfl (Q_ld 0 rfl rfl rfl rfl) rfl rfl rfl ?_
      | refine S_q (Ent.re [0,2] rfl) rfl (Q_ld 1 rfl rfl rfl rfl) rfl rfl rfl ?_
      | refine S_q (Ent.re [0,2] rfl) rfl (Q_ld 2 rfl rfl rfl rfl) rfl rfl rfl ?_
      | refine S_q (Ent.re [0,2] rfl) rfl (Q_ld 3 rfl rfl rfl rfl) rfl rfl rfl ?_
      | refine S_q (Ent.re [0,2] rfl) rfl (Q_ld 4 rfl rfl rfl rfl) rfl rfl rfl ?_
    refine S_q (Ent.re [0,2] rfl) rfl (Q_slL 12 (fun w h => h.rd 1 rfl) rfl rfl rfl hl rfl) rfl rfl rfl ?_
    refine S_q (Ent.re [0,2] rfl) rfl (Q_b2s tB_enc (fun w h => (h.rd 1 rfl).sub 12 a.length hl (Nat.le_refl _)) rfl) rfl rfl rfl ?_
    first
      | refine S_q (Ent.re [0,2] rfl) rfl (Q_ldA 0 rfl rfl rfl) rfl rfl rfl ?_
      | refine S_q (Ent.re [0,2] rfl) rfl (Q_ldA 1 rfl rfl rfl) rfl rfl rfl ?_
      | refine S_q (Ent.re [0,2] rfl) rfl (Q_ldA 2 rfl rfl rfl) rfl rfl rfl ?_
      | refine S_q (Ent.re [0,2] rfl) rfl (Q_ldA 3 rfl rfl rfl) rfl rfl rfl ?_
      | refine S_q (Ent.re [0,2] rfl) rfl (Q_ldA 4 rfl rfl rfl) rfl rfl rfl ?_
    refine S_o rfl rfl rfl rfl (O_call [2] [0,1,3,4] (words_ok E S a hl) rfl rfl ?_)
    (rintro _ _ ⟨rfl, rfl⟩; refine ⟨_, fun _ => ⟨Ent.reN [1,0] rfl, Ent.refl _⟩, ?_⟩)
    refine JS.norm ?_
    refine S_q (Ent.re [1,0] rfl) rfl (Q_aiS (v' := .int .u32 (nw a 1 : Int)) 1 rfl rfl rfl (by decide) rfl rfl) rfl rfl rfl ?_
    refine S_q (Ent.re [1,0] rfl) rfl (Q_cvt rfl (IntWalk.i64_in _ (by omega))) rfl rfl rfl ?_
    refine S_q (Ent.re [1,0] rfl) rfl (Q_assign rfl) rfl rfl rfl ?_
    refine S_q (Ent.re [1,0] rfl) rfl (Q_assign rfl) rfl rfl rfl ?_
    refine S_nil ?_
    repeat first
      | refine J_seq ?_
      | refine seqQ_normal ?_
      | refine J_condT rfl ?_
      | refine J_condF rfl ?_
      | refine J_block ?_
      | refine blockQ_normal ?_
      | refine J_exit ?_
      | refine seqQ_exit ?_
      | refine blockQ_hit ?_
      | refine blockQ_miss rfl ?_
      | refine J_skip ?_
      | refine J_ret ?_
      | refine seqQ_ret ?_
      | refine blockQ_ret ?_
      | refine loopQ_exit ?_
      | refine loopQ_ret ?_
      | refine J_label ?_
    rw [List.take_length]
    exact retQ_ret _ [cel p [S.v, T.v] 59, slc tB true S a, slc tB true T b] (.cons (RV_tmp rfl) (.cons (RV_tmp rfl) .nil)) ⟨by rw [h1, h2]; rfl, rfl⟩ (Ent.re [2, 0, 3, 4] rfl)
  · rw [e] at ht
    have h1 : loadT a b = [] := by simp only [loadT, e]; rfl
    have h2 : loadN a b = 0 := by simp only [loadN, e]; rfl
    repeat first
      | refine J_seq ?_
      | refine seqQ_normal ?_
      | refine J_condT rfl ?_
      | refine J_condF rfl ?_
      | refine J_block ?_
      | refine blockQ_normal ?_
      | refine J_exit ?_
      | refine seqQ_exit ?_
      | refine blockQ_hit ?_
      | refine blockQ_miss rfl ?_
      | refine J_skip ?_
      | refine J_ret ?_
      | refine seqQ_ret ?_
      | refine blockQ_ret ?_
      | refine loopQ_exit ?_
      | refine loopQ_ret ?_
      | refine J_label ?_
    refine J_region ?_
    refine L_q (Q_move rfl) rfl rfl rfl ?_
    refine L_o rfl rfl rfl (O_call [0,1,2] [3] ht rfl rfl ?_)
    rintro _ _ ⟨rfl, rfl⟩
    refine JL.norm ?_
    refine L_q (Q_assign rfl) rfl rfl rfl ?_
    refine JL_nil ?_
    repeat first
      | refine J_seq ?_
      | refine seqQ_normal ?_
      | refine J_condT rfl ?_
      | refine J_condF rfl ?_
      | refine J_block ?_
      | refine blockQ_normal ?_
      | refine J_exit ?_
      | refine seqQ_exit ?_
      | refine blockQ_hit ?_
      | refine blockQ_miss rfl ?_
      | refine J_skip ?_
      | refine J_ret ?_
      | refine seqQ_ret ?_
      | refine blockQ_ret ?_
      | refine loopQ_exit ?_
      | refine loopQ_ret ?_
      | refine J_label ?_
    repeat first
      | refine J_seq ?_
      | refine seqQ_normal ?_
      | refine J_condT rfl ?_
      | refine J_condF rfl ?_
      | refine J_block ?_
      | refine blockQ_normal ?_
      | refine J_exit ?_
      | refine seqQ_exit ?_
      | refine blockQ_hit ?_
      | refine blockQ_miss rfl ?_
      | refine J_skip ?_
      | refine J_ret ?_
      | refine seqQ_ret ?_
      | refine blockQ_ret ?_
      | refine loopQ_exit ?_
      | refine loopQ_ret ?_
      | refine J_label ?_
    refine J_region ?_
    refine L_q (Q_move rfl) rfl rfl rfl ?_
    refine L_q (Q_lss rfl rfl) rfl rfl rfl ?_
    refine JL_nil ?_
    repeat first
      | refine J_seq ?_
      | refine seqQ_normal ?_
      | refine J_condT rfl ?_
      | refine J_condF rfl ?_
      | refine J_block ?_
      | refine blockQ_normal ?_
      | refine J_exit ?_
      | refine seqQ_exit ?_
      | refine blockQ_hit ?_
      | refine blockQ_miss rfl ?_
      | refine J_skip ?_
      | refine J_ret ?_
      | refine seqQ_ret ?_
      | refine blockQ_ret ?_
      | refine loopQ_exit ?_
      | refine loopQ_ret ?_
      | refine J_label ?_
    repeat first
      | refine J_seq ?_
      | refine seqQ_normal ?_
      | refine J_condT rfl ?_
      | refine J_condF rfl ?_
      | refine J_block ?_
      | refine blockQ_normal ?_
      | refine J_exit ?_
      | refine seqQ_exit ?_
      | refine blockQ_hit ?_
      | refine blockQ_miss rfl ?_
      | refine J_skip ?_
      | refine J_ret ?_
      | refine seqQ_ret ?_
      | refine blockQ_ret ?_
      | refine loopQ_exit ?_
      | refine loopQ_ret ?_
      | refine J_label ?_
    refine J_region ?_
    refine L_q (Q_assign rfl) rfl rfl rfl ?_
    refine L_q (Q_assign rfl) rfl rfl rfl ?_
    refine JL_nil ?_
    repeat first
      | refine J_seq ?_
      | refine seqQ_normal ?_
      | refine J_condT rfl ?_
      | refine J_condF rfl ?_
      | refine J_block ?_
      | refine blockQ_normal ?_
      | refine J_exit ?_
      | refine seqQ_exit ?_
      | refine blockQ_hit ?_
      | refine blockQ_miss rfl ?_
      | refine J_skip ?_
      | refine J_ret ?_
      | refine seqQ_ret ?_
      | refine blockQ_ret ?_
      | refine loopQ_exit ?_
      | refine loopQ_ret ?_
      | refine J_label ?_
    exact retQ_ret _ [cel p [S.v, T.v] 59, slc tB true S a, slc tB true T b] (.cons (RV_tmp rfl) (.cons (RV_tmp rfl) .nil)) ⟨by rw [h1, h2]; rfl, rfl⟩ (Ent.refl _)
end Go.Proofs
