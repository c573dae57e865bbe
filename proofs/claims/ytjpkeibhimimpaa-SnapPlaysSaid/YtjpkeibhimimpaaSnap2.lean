/- Which slot is told. -/
import Derived.Test.YtjpkeibhimimpaaSnap1
set_option autoImplicit false
namespace Go.Proofs
open Go.SL
attribute [local irreducible] J JL QOp JOp seqQ blockQ loopQ retQ slc cel hex star pur stars Does RV Ent pAt
theorem right_eq (l : List UInt8) (h : 12 ≤ l.length) : decide (((nw l 0 : Int)) = ((crc (l.drop 4) : Nat) : Int) ∧ ((nw l 1 : Nat) : Int) = ((nw l 1 : Nat) : Int) ∧ ((nw l 2 : Nat) : Int) = (((l.length - 12) % 2 ^ 32 : Nat) : Int)) = rightB l := by
  simp only [rightB, h, decide_true, Bool.true_and]
  by_cases h1 : nw l 0 = crc (l.drop 4) <;> by_cases h2 : nw l 2 = (l.length - 12) % 2 ^ 32 <;> simp [h1, h2] <;> omega
theorem right_ok (E : World) (S : SV) (l : List UInt8) (hl2 : l.length ≤ 100000) : Does Try.prog E 34 [.agg #[S.v]] [slc tB true S l] fun v L => v = .bool (rightB l) ∧ L = [slc tB true S l] := by
  refine Does.of Try.func34 rfl Try.ntmps34 rfl rfl fun F => ?_
  refine J.norm ?_
  repeat first
    | refine J_seq ?_
    | refine seqQ_normal ?_
    | refine J_condT rfl ?_
    | refine J_condF rfl ?_
    | refine J_block ?_
    | refine blockQ_normal ?_
    | refine J_exit ?_
    | refine seqQ_exit ?_
    | refine blockQ_hit ?_
    | refine blockQ_miss rfl ?_
    | refine J_skip ?_
    | refine J_ret ?_
    | refine seqQ_ret ?_
    | refine blockQ_ret ?_
    | refine loopQ_exit ?_
    | refine loopQ_ret ?_
    | refine J_label ?_
  refine J_region ?_
  refine L_o rfl rfl rfl (O_box rfl fun b1 => ?_)
  refine L_q (Q_assign rfl) rfl rfl rfl ?_
  refine JL_nil ?_
  repeat first
    | refine J_seq ?_
    | refine seqQ_normal ?_
    | refine J_condT rfl ?_
    | refine J_condF rfl ?_
    | refine J_block ?_
    | refine blockQ_normal ?_
    | refine J_exit ?_
    | refine seqQ_exit ?_
    | refine blockQ_hit ?_
    | refine blockQ_miss rfl ?_
    | refine J_skip ?_
    | refine J_ret ?_
    | refine seqQ_ret ?_
    | refine blockQ_ret ?_
    | refine loopQ_exit ?_
    | refine loopQ_ret ?_
    | refine J_label ?_
  repeat first
    | refine J_seq ?_
    | refine seqQ_normal ?_
    | refine J_condT rfl ?_
    | refine J_condF rfl ?_
    | refine J_block ?_
    | refine blockQ_normal ?_
    | refine J_exit ?_
    | refine seqQ_exit ?_
    | refine blockQ_hit ?_
    | refine blockQ_miss rfl ?_
    | refine J_skip ?_
    | refine J_ret ?_
    | refine seqQ_ret ?_
    | refine blockQ_ret ?_
    | refine loopQ_exit ?_
    | refine loopQ_ret ?_
    | refine J_label ?_
  refine J_region ?_
  first
    | refine L_q (Q_fa0 rfl) rfl rfl rfl ?_
    | refine L_q (Q_fa rfl rfl) rfl rfl rfl ?_
    | refine L_q (Q_pfa rfl) rfl rfl rfl ?_
  first
    | refine L_q (Q_ld 0 rfl rfl rfl rfl) rfl rfl rfl ?_
    | refine L_q (Q_ld 1 rfl rfl rfl rfl) rfl rfl rfl ?_
    | refine L_q (Q_ld 2 rfl rfl rfl rfl) rfl rfl rfl ?_
    | refine L_q (Q_ld 3 rfl rfl rfl rfl) rfl rfl rfl ?_
    | refine L_q (Q_ld 4 rfl rfl rfl rfl) rfl rfl rfl ?_
  first
    | refine L_q (Q_lenAt 0 rfl rfl) rfl rfl rfl ?_
    | refine L_q (Q_lenAt 1 rfl rfl) rfl rfl rfl ?_
    | refine L_q (Q_lenAt 2 rfl rfl) rfl rfl rfl ?_
    | refine L_q (Q_lenAt 3 rfl rfl) rfl rfl rfl ?_
    | refine L_q (Q_lenAt 4 rfl rfl) rfl rfl rfl ?_
  refine L_q (Q_lss rfl rfl) rfl rfl rfl ?_
  refine JL_nil ?_
  repeat first
    | refine J_seq ?_
    | refine seqQ_normal ?_
    | refine J_condT rfl ?_
    | refine J_condF rfl ?_
    | refine J_block ?_
    | refine blockQ_normal ?_
    | refine J_exit ?_
    | refine seqQ_exit ?_
    | refine blockQ_hit ?_
    | refine blockQ_miss rfl ?_
    | refine J_skip ?_
    | refine J_ret ?_
    | refine seqQ_ret ?_
    | refine blockQ_ret ?_
    | refine loopQ_exit ?_
    | refine loopQ_ret ?_
    | refine J_label ?_
  refine J_condD rfl (fun h => ?_) (fun h => ?_)
  · repeat first
      | refine J_seq ?_
      | refine seqQ_normal ?_
      | refine J_condT rfl ?_
      | refine J_condF rfl ?_
      | refine J_block ?_
      | refine blockQ_normal ?_
      | refine J_exit ?_
      | refine seqQ_exit ?_
      | refine blockQ_hit ?_
      | refine blockQ_miss rfl ?_
      | refine J_skip ?_
      | refine J_ret ?_
      | refine seqQ_ret ?_
      | refine blockQ_ret ?_
      | refine loopQ_exit ?_
      | refine loopQ_ret ?_
      | refine J_label ?_
    refine J_region ?_
    refine L_q (Q_assign rfl) rfl rfl rfl ?_
    refine JL_nil ?_
    repeat first
      | refine J_seq ?_
      | refine seqQ_normal ?_
      | refine J_condT rfl ?_
      | refine J_condF rfl ?_
      | refine J_block ?_
      | refine blockQ_normal ?_
      | refine J_exit ?_
      | refine seqQ_exit ?_
      | refine blockQ_hit ?_
      | refine blockQ_miss rfl ?_
      | refine J_skip ?_
      | refine J_ret ?_
      | refine seqQ_ret ?_
      | refine blockQ_ret ?_
      | refine loopQ_exit ?_
      | refine loopQ_ret ?_
      | refine J_label ?_
    have e : rightB l = false := by simp [rightB]; omega
    exact retQ_ret _ [slc tB true S l] (.cons (RV_tmp rfl) .nil) ⟨by rw [e]; rfl, rfl⟩ (Ent.re [1, 2] rfl)
  · have hl : 12 ≤ l.length := by omega
    repeat first
      | refine J_seq ?_
      | refine seqQ_normal ?_
      | refine J_condT rfl ?_
      | refine J_condF rfl ?_
      | refine J_block ?_
      | refine blockQ_normal ?_
      | refine J_exit ?_
      | refine seqQ_exit ?_
      | refine blockQ_hit ?_
      | refine blockQ_miss rfl ?_
      | refine J_skip ?_
      | refine J_ret ?_
      | refine seqQ_ret ?_
      | refine blockQ_ret ?_
      | refine loopQ_exit ?_
      | refine loopQ_ret ?_
      | refine J_label ?_
    refine J_region ?_
    first
      | refine L_q (Q_ldA 0 rfl rfl rfl) rfl rfl rfl ?_
      | refine L_q (Q_ldA 1 rfl rfl rfl) rfl rfl rfl ?_
      | refine L_q (Q_ldA 2 rfl rfl rfl) rfl rfl rfl ?_
      | refine L_q (Q_ldA 3 rfl rfl rfl) rfl rfl rfl ?_
      | refine L_q (Q_ldA 4 rfl rfl rfl) rfl rfl rfl ?_
    refine L_o rfl rfl rfl (O_call [1] [0,2] (words_ok E S l hl) rfl rfl ?_)
    rintro _ _ ⟨rfl, rfl⟩
    refine JL.norm ?_
    refine L_o rfl rfl rfl (O_alloc fun b3 => ?_)
    first
      | refine L_s rfl rfl (O_stW 0 rfl rfl rfl rfl ?_)
      | refine L_s rfl rfl (O_stW 1 rfl rfl rfl rfl ?_)
      | refine L_s rfl rfl (O_stW 2 rfl rfl rfl rfl ?_)
      | refine L_s rfl rfl (O_stW 3 rfl rfl rfl rfl ?_)
      | refine L_s rfl rfl (O_stW 4 rfl rfl rfl rfl ?_)
    refine JL.norm ?_
    refine JL_nil ?_
    repeat first
      | refine J_seq ?_
      | refine seqQ_normal ?_
      | refine J_condT rfl ?_
      | refine J_condF rfl ?_
      | refine J_block ?_
      | refine blockQ_normal ?_
      | refine J_exit ?_
      | refine seqQ_exit ?_
      | refine blockQ_hit ?_
      | refine blockQ_miss rfl ?_
      | refine J_skip ?_
      | refine J_ret ?_
      | refine seqQ_ret ?_
      | refine blockQ_ret ?_
      | refine loopQ_exit ?_
      | refine loopQ_ret ?_
      | refine J_label ?_
    repeat first
      | refine J_seq ?_
      | refine seqQ_normal ?_
      | refine J_condT rfl ?_
      | refine J_condF rfl ?_
      | refine J_block ?_
      | refine blockQ_normal ?_
      | refine J_exit ?_
      | refine seqQ_exit ?_
      | refine blockQ_hit ?_
      | refine blockQ_miss rfl ?_
      | refine J_skip ?_
      | refine J_ret ?_
      | refine seqQ_ret ?_
      | refine blockQ_ret ?_
      | refine loopQ_exit ?_
      | refine loopQ_ret ?_
      | refine J_label ?_
    refine J_drawH [0,2,1] [0, 1, 2, 3, 5, 6] (.quiet 0 (.quiet 1 (.quiet 2 (.quiet 3 (.loud 4 (.quiet 5 (.quiet 6 .done))))))) Try.mixed (by kernel_rfl) (by kernel_rfl) (by repeat (first | exact retQ_noP | refine seqQ_noP ?_ | refine blockQ_noP ?_ | refine loopQ_noP ?_)) ?_
    first
      | refine S_q (Ent.re [0,2,1] rfl) rfl (Q_ldA 0 rfl rfl rfl) rfl rfl rfl ?_
      | refine S_q (Ent.re [0,2,1] rfl) rfl (Q_ldA 1 rfl rfl rfl) rfl rfl rfl ?_
      | refine S_q (Ent.re [0,2,1] rfl) rfl (Q_ldA 2 rfl rfl rfl) rfl rfl rfl ?_
      | refine S_q (Ent.re [0,2,1] rfl) rfl (Q_ldA 3 rfl rfl rfl) rfl rfl rfl ?_
      | refine S_q (Ent.re [0,2,1] rfl) rfl (Q_ldA 4 rfl rfl rfl) rfl rfl rfl ?_
    first
      | refine S_q (Ent.re [0,2,1] rfl) rfl (Q_ldA 0 rfl rfl rfl) rfl rfl rfl ?_
      | refine S_q (Ent.re [0,2,1] rfl) rfl (Q_ldA 1 rfl rfl rfl) rfl rfl rfl ?_
      | refine S_q (Ent.re [0,2,1] rfl) rfl (Q_ldA 2 rfl rfl rfl) rfl rfl rfl ?_
      | refine S_q (Ent.re [0,2,1] rfl) rfl (Q_ldA 3 rfl rfl rfl) rfl rfl rfl ?_
      | refine S_q (Ent.re [0,2,1] rfl) rfl (Q_ldA 4 rfl rfl rfl) rfl rfl rfl ?_
    refine S_q (Ent.re [0,2,1] rfl) rfl (Q_ia (o' := 1) 1 rfl rfl rfl (by decide) (by decide)) rfl rfl rfl ?_
    first
      | refine S_q (Ent.re [0,2,1] rfl) rfl (Q_ld 0 rfl rfl rfl rfl) rfl rfl rfl ?_
      | refine S_q (Ent.re [0,2,1] rfl) rfl (Q_ld 1 rfl rfl rfl rfl) rfl rfl rfl ?_
      | refine S_q (Ent.re [0,2,1] rfl) rfl (Q_ld 2 rfl rfl rfl rfl) rfl rfl rfl ?_
      | refine S_q (Ent.re [0,2,1] rfl) rfl (Q_ld 3 rfl rfl rfl rfl) rfl rfl rfl ?_
      | refine S_q (Ent.re [0,2,1] rfl) rfl (Q_ld 4 rfl rfl rfl rfl) rfl rfl rfl ?_
    refine S_o rfl rfl rfl rfl (O_call [1] [0,2,3] (meant_ok E S l (nw l 1) hl hl2) rfl rfl ?_)
    (rintro _ _ ⟨rfl, rfl⟩; refine ⟨_, fun _ => ⟨Ent.reN [1,2,0] rfl, Ent.refl _⟩, ?_⟩)
    refine JS.norm ?_
    refine S_q (Ent.re [1,2,0] rfl) rfl (Q_geql eqg3 (EqV_arr3 _ _ _ _ _ _ 9998) rfl rfl) rfl rfl rfl ?_
    refine S_q (Ent.re [1,2,0] rfl) rfl (Q_assign rfl) rfl rfl rfl ?_
    refine S_nil ?_
    repeat first
      | refine J_seq ?_
      | refine seqQ_normal ?_
      | refine J_condT rfl ?_
      | refine J_condF rfl ?_
      | refine J_block ?_
      | refine blockQ_normal ?_
      | refine J_exit ?_
      | refine seqQ_exit ?_
      | refine blockQ_hit ?_
      | refine blockQ_miss rfl ?_
      | refine J_skip ?_
      | refine J_ret ?_
      | refine seqQ_ret ?_
      | refine blockQ_ret ?_
      | refine loopQ_exit ?_
      | refine loopQ_ret ?_
      | refine J_label ?_
    exact retQ_ret _ [slc tB true S l] (.cons (RV_tmp rfl) .nil) ⟨by rw [right_eq l hl]; rfl, rfl⟩ (Ent.re [0, 3] rfl)

def snapAt (p : Nat) (a b : List UInt8) : HProp := hex fun S : SV => hex fun T : SV => star (cel p [S.v, T.v] 59) (star (slc tB true S a) (slc tB true T b))
theorem told_ok (E : World) (p : Nat) (S T : SV) (a b : List UInt8) (ha : a.length ≤ 100000) (hb : b.length ≤ 100000) : Does Try.prog E 22 [.pointer (some ⟨p, 0, none⟩)] [cel p [S.v, T.v] 59, slc tB true S a, slc tB true T b] fun v L => v = .int .i64 (told a b) ∧ L = [cel p [S.v, T.v] 59, slc tB true S a, slc tB true T b] := by
  have hra := right_ok E S a ha
  have hrb := right_ok E T b hb
  have hwa : 12 ≤ a.length ∨ rightB a = false := by by_cases h : 12 ≤ a.length; exact .inl h; exact .inr (by simp [rightB, h])
  have hwb : 12 ≤ b.length ∨ rightB b = false := by by_cases h : 12 ≤ b.length; exact .inl h; exact .inr (by simp [rightB, h])
  refine Does.of Try.func22 rfl Try.ntmps22 rfl rfl fun F => ?_
  refine J.norm ?_
  repeat first
    | refine J_seq ?_
    | refine seqQ_normal ?_
    | refine J_condT rfl ?_
    | refine J_condF rfl ?_
    | refine J_block ?_
    | refine blockQ_normal ?_
    | refine J_exit ?_
    | refine seqQ_exit ?_
    | refine blockQ_hit ?_
    | refine blockQ_miss rfl ?_
    | refine J_skip ?_
    | refine J_ret ?_
    | refine seqQ_ret ?_
    | refine blockQ_ret ?_
    | refine loopQ_exit ?_
    | refine loopQ_ret ?_
    | refine J_label ?_
  refine J_region ?_
  refine L_q (Q_assign rfl) rfl rfl rfl ?_
  refine JL_nil ?_
  repeat first
    | refine J_seq ?_
    | refine seqQ_normal ?_
    | refine J_condT rfl ?_
    | refine J_condF rfl ?_
    | refine J_block ?_
    | refine blockQ_normal ?_
    | refine J_exit ?_
    | refine seqQ_exit ?_
    | refine blockQ_hit ?_
    | refine blockQ_miss rfl ?_
    | refine J_skip ?_
    | refine J_ret ?_
    | refine seqQ_ret ?_
    | refine blockQ_ret ?_
    | refine loopQ_exit ?_
    | refine loopQ_ret ?_
    | refine J_label ?_
  repeat first
    | refine J_seq ?_
    | refine seqQ_normal ?_
    | refine J_condT rfl ?_
    | refine J_condF rfl ?_
    | refine J_block ?_
    | refine blockQ_normal ?_
    | refine J_exit ?_
    | refine seqQ_exit ?_
    | refine blockQ_hit ?_
    | refine blockQ_miss rfl ?_
    | refine J_skip ?_
    | refine J_ret ?_
    | refine seqQ_ret ?_
    | refine blockQ_ret ?_
    | refine loopQ_exit ?_
    | refine loopQ_ret ?_
    | refine J_label ?_
  refine J_region ?_
  refine L_q (Q_assign rfl) rfl rfl rfl ?_
  refine JL_nil ?_
  repeat first
    | refine J_seq ?_
    | refine seqQ_normal ?_
    | refine J_condT rfl ?_
    | refine J_condF rfl ?_
    | refine J_block ?_
    | refine blockQ_normal ?_
    | refine J_exit ?_
    | refine seqQ_exit ?_
    | refine blockQ_hit ?_
    | refine blockQ_miss rfl ?_
    | refine J_skip ?_
    | refine J_ret ?_
    | refine seqQ_ret ?_
    | refine blockQ_ret ?_
    | refine loopQ_exit ?_
    | refine loopQ_ret ?_
    | refine J_label ?_
  repeat first
    | refine J_seq ?_
    | refine seqQ_normal ?_
    | refine J_condT rfl ?_
    | refine J_condF rfl ?_
    | refine J_block ?_
    | refine blockQ_normal ?_
    | refine J_exit ?_
    | refine seqQ_exit ?_
    | refine blockQ_hit ?_
    | refine blockQ_miss rfl ?_
    | refine J_skip ?_
    | refine J_ret ?_
    | refine seqQ_ret ?_
    | refine blockQ_ret ?_
    | refine loopQ_exit ?_
    | refine loopQ_ret ?_
    | refine J_label ?_
  refine J_region ?_
  refine L_q (Q_move rfl) rfl rfl rfl ?_
  first
    | refine L_q (Q_pnil rfl) rfl rfl rfl ?_
    | refine L_q (Q_nilCheck rfl) rfl rfl rfl ?_
  first
    | refine L_q (Q_fa0 rfl) rfl rfl rfl ?_
    | refine L_q (Q_fa rfl rfl) rfl rfl rfl ?_
    | refine L_q (Q_pfa rfl) rfl rfl rfl ?_
  first
    | refine L_q (Q_ldA 0 rfl rfl rfl) rfl rfl rfl ?_
    | refine L_q (Q_ldA 1 rfl rfl rfl) rfl rfl rfl ?_
    | refine L_q (Q_ldA 2 rfl rfl rfl) rfl rfl rfl ?_
    | refine L_q (Q_ldA 3 rfl rfl rfl) rfl rfl rfl ?_
    | refine L_q (Q_ldA 4 rfl rfl rfl) rfl rfl rfl ?_
  refine L_q (Q_move rfl) rfl rfl rfl ?_
  refine JL_nil ?_
  repeat first
    | refine J_seq ?_
    | refine seqQ_normal ?_
    | refine J_condT rfl ?_
    | refine J_condF rfl ?_
    | refine J_block ?_
    | refine blockQ_normal ?_
    | refine J_exit ?_
    | refine seqQ_exit ?_
    | refine blockQ_hit ?_
    | refine blockQ_miss rfl ?_
    | refine J_skip ?_
    | refine J_ret ?_
    | refine seqQ_ret ?_
    | refine blockQ_ret ?_
    | refine loopQ_exit ?_
    | refine loopQ_ret ?_
    | refine J_label ?_
  refine J_loop (fun k : Nat => k ≤ 2) (fun k => [(0, .pointer (some ⟨p, 0, none⟩)), (3, .int .i64 (if k = 0 then -1 else if k = 1 then (if rightB a = true then 0 else -1) else told a b)), (9, .agg #[S.v, T.v]), (10, .int .i64 (k : Int))])
    (fun _ => [cel p [S.v, T.v] 59, slc tB true S a, slc tB true T b, F]) (fun k => 2 - k) 0 (by omega) ⟨rfl, rfl, rfl, rfl, trivial⟩ (Ent.refl _) ?_
  intro k hk
  by_cases h2 : k = 2
  · subst h2
    repeat first
      | refine J_seq ?_
      | refine seqQ_normal ?_
      | refine J_condT rfl ?_
      | refine J_condF rfl ?_
      | refine J_block ?_
      | refine blockQ_normal ?_
      | refine J_exit ?_
      | refine seqQ_exit ?_
      | refine blockQ_hit ?_
      | refine blockQ_miss rfl ?_
      | refine J_skip ?_
      | refine J_ret ?_
      | refine seqQ_ret ?_
      | refine blockQ_ret ?_
      | refine loopQ_exit ?_
      | refine loopQ_ret ?_
      | refine J_label ?_
    refine J_region ?_
    refine L_q (Q_lss rfl rfl) rfl rfl rfl ?_
    refine JL_nil ?_
    repeat first
      | refine J_seq ?_
      | refine seqQ_normal ?_
      | refine J_condT rfl ?_
      | refine J_condF rfl ?_
      | refine J_block ?_
      | refine blockQ_normal ?_
      | refine J_exit ?_
      | refine seqQ_exit ?_
      | refine blockQ_hit ?_
      | refine blockQ_miss rfl ?_
      | refine J_skip ?_
      | refine J_ret ?_
      | refine seqQ_ret ?_
      | refine blockQ_ret ?_
      | refine loopQ_exit ?_
      | refine loopQ_ret ?_
      | refine J_label ?_
    repeat first
      | refine J_seq ?_
      | refine seqQ_normal ?_
      | refine J_condT rfl ?_
      | refine J_condF rfl ?_
      | refine J_block ?_
      | refine blockQ_normal ?_
      | refine J_exit ?_
      | refine seqQ_exit ?_
      | refine blockQ_hit ?_
      | refine blockQ_miss rfl ?_
      | refine J_skip ?_
      | refine J_ret ?_
      | refine seqQ_ret ?_
      | refine blockQ_ret ?_
      | refine loopQ_exit ?_
      | refine loopQ_ret ?_
      | refine J_label ?_
    refine J_region ?_
    refine L_q (Q_move rfl) rfl rfl rfl ?_
    refine L_q (Q_assign rfl) rfl rfl rfl ?_
    refine JL_nil ?_
    repeat first
      | refine J_seq ?_
      | refine seqQ_normal ?_
      | refine J_condT rfl ?_
      | refine J_condF rfl ?_
      | refine J_block ?_
      | refine blockQ_normal ?_
      | refine J_exit ?_
      | refine seqQ_exit ?_
      | refine blockQ_hit ?_
      | refine blockQ_miss rfl ?_
      | refine J_skip ?_
      | refine J_ret ?_
      | refine seqQ_ret ?_
      | refine blockQ_ret ?_
      | refine loopQ_exit ?_
      | refine loopQ_ret ?_
      | refine J_label ?_
    exact retQ_ret _ [cel p [S.v, T.v] 59, slc tB true S a, slc tB true T b] (.cons (RV_tmp rfl) .nil) ⟨rfl, rfl⟩ (Ent.refl _)
  by_cases h1 : k = 1
  · subst h1
    cases eb : rightB b with
    | false =>
      rw [eb] at hrb
      have et : told a b = if rightB a = true then 0 else -1 := by simp [told, eb]
      repeat first
        | refine J_seq ?_
        | refine seqQ_normal ?_
        | refine J_condT rfl ?_
        | refine J_condF rfl ?_
        | refine J_block ?_
        | refine blockQ_normal ?_
        | refine J_exit ?_
        | refine seqQ_exit ?_
        | refine blockQ_hit ?_
        | refine blockQ_miss rfl ?_
        | refine J_skip ?_
        | refine J_ret ?_
        | refine seqQ_ret ?_
        | refine blockQ_ret ?_
        | refine loopQ_exit ?_
        | refine loopQ_ret ?_
        | refine J_label ?_
      refine J_region ?_
      refine L_q (Q_lss rfl rfl) rfl rfl rfl ?_
      refine JL_nil ?_
      repeat first
        | refine J_seq ?_
        | refine seqQ_normal ?_
        | refine J_condT rfl ?_
        | refine J_condF rfl ?_
        | refine J_block ?_
        | refine blockQ_normal ?_
        | refine J_exit ?_
        | refine seqQ_exit ?_
        | refine blockQ_hit ?_
        | refine blockQ_miss rfl ?_
        | refine J_skip ?_
        | refine J_ret ?_
        | refine seqQ_ret ?_
        | refine blockQ_ret ?_
        | refine loopQ_exit ?_
        | refine loopQ_ret ?_
        | refine J_label ?_
      repeat first
        | refine J_seq ?_
        | refine seqQ_normal ?_
        | refine J_condT rfl ?_
        | refine J_condF rfl ?_
        | refine J_block ?_
        | refine blockQ_normal ?_
        | refine J_exit ?_
        | refine seqQ_exit ?_
        | refine blockQ_hit ?_
        | refine blockQ_miss rfl ?_
        | refine J_skip ?_
        | refine J_ret ?_
        | refine seqQ_ret ?_
        | refine blockQ_ret ?_
        | refine loopQ_exit ?_
        | refine loopQ_ret ?_
        | refine J_label ?_
      refine J_region ?_
      refine L_q (Q_move rfl) rfl rfl rfl ?_
      refine L_q (Q_aiA 1 (vs := #[T.v]) rfl rfl rfl (by decide) rfl rfl) rfl rfl rfl ?_
      refine L_o rfl rfl rfl (O_alloc fun b5 => ?_)
      refine L_q (Q_assign rfl) rfl rfl rfl ?_
      first
        | refine L_s rfl rfl (O_stW 0 rfl rfl rfl rfl ?_)
        | refine L_s rfl rfl (O_stW 1 rfl rfl rfl rfl ?_)
        | refine L_s rfl rfl (O_stW 2 rfl rfl rfl rfl ?_)
        | refine L_s rfl rfl (O_stW 3 rfl rfl rfl rfl ?_)
        | refine L_s rfl rfl (O_stW 4 rfl rfl rfl rfl ?_)
      refine JL.norm ?_
      refine JL_nil ?_
      repeat first
        | refine J_seq ?_
        | refine seqQ_normal ?_
        | refine J_condT rfl ?_
        | refine J_condF rfl ?_
        | refine J_block ?_
        | refine blockQ_normal ?_
        | refine J_exit ?_
        | refine seqQ_exit ?_
        | refine blockQ_hit ?_
        | refine blockQ_miss rfl ?_
        | refine J_skip ?_
        | refine J_ret ?_
        | refine seqQ_ret ?_
        | refine blockQ_ret ?_
        | refine loopQ_exit ?_
        | refine loopQ_ret ?_
        | refine J_label ?_
      repeat first
        | refine J_seq ?_
        | refine seqQ_normal ?_
        | refine J_condT rfl ?_
        | refine J_condF rfl ?_
        | refine J_block ?_
        | refine blockQ_normal ?_
        | refine J_exit ?_
        | refine seqQ_exit ?_
        | refine blockQ_hit ?_
        | refine blockQ_miss rfl ?_
        | refine J_skip ?_
        | refine J_ret ?_
        | refine seqQ_ret ?_
        | refine blockQ_ret ?_
        | refine loopQ_exit ?_
        | refine loopQ_ret ?_
        | refine J_label ?_
      refine J_drawH [0,1] [0, 2, 3, 4, 5, 6, 8, 9, 10, 11, 12, 13, 14, 16, 17, 18, 19] (.quiet 0 (.loud 1 (.quiet 2 (.quiet 3 (.quiet 4 (.quiet 5 (.quiet 6 (.quiet 9 (.quiet 10 (.quiet 11 (.quiet 12 (.quiet 13 (.quiet 14 (.loud 7 (.quiet 8 (.loud 15 (.quiet 16 (.quiet 17 (.quiet 18 (.quiet 19 .done)))))))))))))))))))) Try.mixed (by kernel_rfl) (by kernel_rfl) (by repeat (first | exact retQ_noP | refine seqQ_noP ?_ | refine blockQ_noP ?_ | refine loopQ_noP ?_)) ?_
      first
        | refine S_q (Ent.re [0,1] rfl) rfl (Q_ldA 0 rfl rfl rfl) rfl rfl rfl ?_
        | refine S_q (Ent.re [0,1] rfl) rfl (Q_ldA 1 rfl rfl rfl) rfl rfl rfl ?_
        | refine S_q (Ent.re [0,1] rfl) rfl (Q_ldA 2 rfl rfl rfl) rfl rfl rfl ?_
        | refine S_q (Ent.re [0,1] rfl) rfl (Q_ldA 3 rfl rfl rfl) rfl rfl rfl ?_
        | refine S_q (Ent.re [0,1] rfl) rfl (Q_ldA 4 rfl rfl rfl) rfl rfl rfl ?_
      refine S_o rfl rfl rfl rfl (O_call [3] [0,1,2,4] hrb rfl rfl ?_)
      (rintro _ _ ⟨rfl, rfl⟩; refine ⟨_, fun _ => ⟨Ent.reN [1,2] rfl, Ent.refl _⟩, ?_⟩)
      refine JS.norm ?_
      refine S_q (Ent.re [1,2] rfl) rfl (Q_move rfl) rfl rfl rfl ?_
      refine S_n (Ent.re [1,2] rfl) rfl rfl rfl rfl ?_
      refine S_n (Ent.re [1,2] rfl) rfl rfl rfl rfl ?_
      refine S_n (Ent.re [1,2] rfl) rfl rfl rfl rfl ?_
      refine S_n (Ent.re [1,2] rfl) rfl rfl rfl rfl ?_
      refine S_n (Ent.re [1,2] rfl) rfl rfl rfl rfl ?_
      refine S_n (Ent.re [1,2] rfl) rfl rfl rfl rfl ?_
      refine S_n (Ent.re [1,2] rfl) rfl rfl rfl rfl ?_
      refine S_n (Ent.re [1,2] rfl) rfl rfl rfl rfl ?_
      refine S_n (Ent.re [1,2] rfl) rfl rfl rfl rfl ?_
      refine S_n (Ent.re [1,2] rfl) rfl rfl rfl rfl ?_
      refine S_no rfl rfl rfl rfl (fun _ => (Ent.re [1,2] rfl)) ?_
      refine S_n (Ent.re [1,2] rfl) rfl rfl rfl rfl ?_
      refine S_no rfl rfl rfl rfl (fun _ => (Ent.re [1,2] rfl)) ?_
      refine S_n (Ent.re [1,2] rfl) rfl rfl rfl rfl ?_
      refine S_n (Ent.re [1,2] rfl) rfl rfl rfl rfl ?_
      refine S_n (Ent.re [1,2] rfl) rfl rfl rfl rfl ?_
      first
        | refine S_q (Ent.re [1,2] rfl) rfl (Q_pickT rfl rfl) rfl rfl rfl ?_
        | refine S_q (Ent.re [1,2] rfl) rfl (Q_pickF rfl rfl) rfl rfl rfl ?_
        | refine S_q (Ent.re [1,2] rfl) rfl (Q_pickB rfl rfl rfl) rfl rfl rfl ?_
      refine S_nil ?_
      repeat first
        | refine J_seq ?_
        | refine seqQ_normal ?_
        | refine J_condT rfl ?_
        | refine J_condF rfl ?_
        | refine J_block ?_
        | refine blockQ_normal ?_
        | refine J_exit ?_
        | refine seqQ_exit ?_
        | refine blockQ_hit ?_
        | refine blockQ_miss rfl ?_
        | refine J_skip ?_
        | refine J_ret ?_
        | refine seqQ_ret ?_
        | refine blockQ_ret ?_
        | refine loopQ_exit ?_
        | refine loopQ_ret ?_
        | refine J_label ?_
      repeat first
        | refine J_seq ?_
        | refine seqQ_normal ?_
        | refine J_condT rfl ?_
        | refine J_condF rfl ?_
        | refine J_block ?_
        | refine blockQ_normal ?_
        | refine J_exit ?_
        | refine seqQ_exit ?_
        | refine blockQ_hit ?_
        | refine blockQ_miss rfl ?_
        | refine J_skip ?_
        | refine J_ret ?_
        | refine seqQ_ret ?_
        | refine blockQ_ret ?_
        | refine loopQ_exit ?_
        | refine loopQ_ret ?_
        | refine J_label ?_
      refine J_region ?_
      refine L_q (Q_add rfl rfl (by first | exact IntWalk.i64_in _ (by omega) | exact IntWalk.u8_in _ (by omega) | exact IntWalk.u32_in _ (by omega) | exact IntWalk.u64_in _ (by omega) | rfl)) rfl rfl rfl ?_
      refine L_q (Q_move rfl) rfl rfl rfl ?_
      refine JL_nil ?_
      repeat first
        | refine J_seq ?_
        | refine seqQ_normal ?_
        | refine J_condT rfl ?_
        | refine J_condF rfl ?_
        | refine J_block ?_
        | refine blockQ_normal ?_
        | refine J_exit ?_
        | refine seqQ_exit ?_
        | refine blockQ_hit ?_
        | refine blockQ_miss rfl ?_
        | refine J_skip ?_
        | refine J_ret ?_
        | refine seqQ_ret ?_
        | refine blockQ_ret ?_
        | refine loopQ_exit ?_
        | refine loopQ_ret ?_
        | refine J_label ?_
      exact loopQ_normal 2 (by omega) (by omega) ⟨rfl, by rw [et]; rfl, rfl, rfl, trivial⟩ (Ent.re [2, 3, 0, 4] rfl)
    | true =>
      rw [eb] at hrb
      have hb12 : 12 ≤ b.length := by rcases hwb with h | h; exact h; rw [eb] at h; cases h
      cases ea : rightB a with
      | false =>
        have et : told a b = 1 := by simp [told, eb, ea]
        repeat first
          | refine J_seq ?_
          | refine seqQ_normal ?_
          | refine J_condT rfl ?_
          | refine J_condF rfl ?_
          | refine J_block ?_
          | refine blockQ_normal ?_
          | refine J_exit ?_
          | refine seqQ_exit ?_
          | refine blockQ_hit ?_
          | refine blockQ_miss rfl ?_
          | refine J_skip ?_
          | refine J_ret ?_
          | refine seqQ_ret ?_
          | refine blockQ_ret ?_
          | refine loopQ_exit ?_
          | refine loopQ_ret ?_
          | refine J_label ?_
        refine J_region ?_
        refine L_q (Q_lss rfl rfl) rfl rfl rfl ?_
        refine JL_nil ?_
        repeat first
          | refine J_seq ?_
          | refine seqQ_normal ?_
          | refine J_condT rfl ?_
          | refine J_condF rfl ?_
          | refine J_block ?_
          | refine blockQ_normal ?_
          | refine J_exit ?_
          | refine seqQ_exit ?_
          | refine blockQ_hit ?_
          | refine blockQ_miss rfl ?_
          | refine J_skip ?_
          | refine J_ret ?_
          | refine seqQ_ret ?_
          | refine blockQ_ret ?_
          | refine loopQ_exit ?_
          | refine loopQ_ret ?_
          | refine J_label ?_
        repeat first
          | refine J_seq ?_
          | refine seqQ_normal ?_
          | refine J_condT rfl ?_
          | refine J_condF rfl ?_
          | refine J_block ?_
          | refine blockQ_normal ?_
          | refine J_exit ?_
          | refine seqQ_exit ?_
          | refine blockQ_hit ?_
          | refine blockQ_miss rfl ?_
          | refine J_skip ?_
          | refine J_ret ?_
          | refine seqQ_ret ?_
          | refine blockQ_ret ?_
          | refine loopQ_exit ?_
          | refine loopQ_ret ?_
          | refine J_label ?_
        refine J_region ?_
        refine L_q (Q_move rfl) rfl rfl rfl ?_
        refine L_q (Q_aiA 1 (vs := #[T.v]) rfl rfl rfl (by decide) rfl rfl) rfl rfl rfl ?_
        refine L_o rfl rfl rfl (O_alloc fun b5 => ?_)
        refine L_q (Q_assign rfl) rfl rfl rfl ?_
        first
          | refine L_s rfl rfl (O_stW 0 rfl rfl rfl rfl ?_)
          | refine L_s rfl rfl (O_stW 1 rfl rfl rfl rfl ?_)
          | refine L_s rfl rfl (O_stW 2 rfl rfl rfl rfl ?_)
          | refine L_s rfl rfl (O_stW 3 rfl rfl rfl rfl ?_)
          | refine L_s rfl rfl (O_stW 4 rfl rfl rfl rfl ?_)
        refine JL.norm ?_
        refine JL_nil ?_
        repeat first
          | refine J_seq ?_
          | refine seqQ_normal ?_
          | refine J_condT rfl ?_
          | refine J_condF rfl ?_
          | refine J_block ?_
          | refine blockQ_normal ?_
          | refine J_exit ?_
          | refine seqQ_exit ?_
          | refine blockQ_hit ?_
          | refine blockQ_miss rfl ?_
          | refine J_skip ?_
          | refine J_ret ?_
          | refine seqQ_ret ?_
          | refine blockQ_ret ?_
          | refine loopQ_exit ?_
          | refine loopQ_ret ?_
          | refine J_label ?_
        repeat first
          | refine J_seq ?_
          | refine seqQ_normal ?_
          | refine J_condT rfl ?_
          | refine J_condF rfl ?_
          | refine J_block ?_
          | refine blockQ_normal ?_
          | refine J_exit ?_
          | refine seqQ_exit ?_
          | refine blockQ_hit ?_
          | refine blockQ_miss rfl ?_
          | refine J_skip ?_
          | refine J_ret ?_
          | refine seqQ_ret ?_
          | refine blockQ_ret ?_
          | refine loopQ_exit ?_
          | refine loopQ_ret ?_
          | refine J_label ?_
        refine J_drawH [0,1] [0, 2, 3, 4, 5, 6, 8, 9, 10, 11, 12, 13, 14, 16, 17, 18, 19] (.quiet 0 (.loud 1 (.quiet 2 (.quiet 3 (.quiet 4 (.quiet 5 (.quiet 6 (.quiet 9 (.quiet 10 (.quiet 11 (.quiet 12 (.quiet 13 (.quiet 14 (.loud 7 (.quiet 8 (.loud 15 (.quiet 16 (.quiet 17 (.quiet 18 (.quiet 19 .done)))))))))))))))))))) Try.mixed (by kernel_rfl) (by kernel_rfl) (by repeat (first | exact retQ_noP | refine seqQ_noP ?_ | refine blockQ_noP ?_ | refine loopQ_noP ?_)) ?_
        first
          | refine S_q (Ent.re [0,1] rfl) rfl (Q_ldA 0 rfl rfl rfl) rfl rfl rfl ?_
          | refine S_q (Ent.re [0,1] rfl) rfl (Q_ldA 1 rfl rfl rfl) rfl rfl rfl ?_
          | refine S_q (Ent.re [0,1] rfl) rfl (Q_ldA 2 rfl rfl rfl) rfl rfl rfl ?_
          | refine S_q (Ent.re [0,1] rfl) rfl (Q_ldA 3 rfl rfl rfl) rfl rfl rfl ?_
          | refine S_q (Ent.re [0,1] rfl) rfl (Q_ldA 4 rfl rfl rfl) rfl rfl rfl ?_
        refine S_o rfl rfl rfl rfl (O_call [3] [0,1,2,4] hrb rfl rfl ?_)
        (rintro _ _ ⟨rfl, rfl⟩; refine ⟨_, fun _ => ⟨Ent.reN [1,2] rfl, Ent.refl _⟩, ?_⟩)
        refine JS.norm ?_
        refine S_q (Ent.re [1,2] rfl) rfl (Q_move rfl) rfl rfl rfl ?_
        refine S_q (Ent.re [1,2] rfl) rfl (Q_move rfl) rfl rfl rfl ?_
        refine S_q (Ent.re [1,2] rfl) rfl ((Q_lss rfl rfl).as (v' := .bool true) (congrArg Value.bool (decide_eq_true (by simp)))) rfl rfl rfl ?_
        refine S_q (Ent.re [1,2] rfl) rfl (Q_move rfl) rfl rfl rfl ?_
        refine S_n (Ent.re [1,2] rfl) rfl rfl rfl rfl ?_
        refine S_n (Ent.re [1,2] rfl) rfl rfl rfl rfl ?_
        refine S_n (Ent.re [1,2] rfl) rfl rfl rfl rfl ?_
        refine S_n (Ent.re [1,2] rfl) rfl rfl rfl rfl ?_
        refine S_n (Ent.re [1,2] rfl) rfl rfl rfl rfl ?_
        refine S_n (Ent.re [1,2] rfl) rfl rfl rfl rfl ?_
        refine S_n (Ent.re [1,2] rfl) rfl rfl rfl rfl ?_
        refine S_no rfl rfl rfl rfl (fun _ => (Ent.re [1,2] rfl)) ?_
        refine S_n (Ent.re [1,2] rfl) rfl rfl rfl rfl ?_
        refine S_no rfl rfl rfl rfl (fun _ => (Ent.re [1,2] rfl)) ?_
        refine S_n (Ent.re [1,2] rfl) rfl rfl rfl rfl ?_
        refine S_n (Ent.re [1,2] rfl) rfl rfl rfl rfl ?_
        first
          | refine S_q (Ent.re [1,2] rfl) rfl (Q_pickT rfl rfl) rfl rfl rfl ?_
          | refine S_q (Ent.re [1,2] rfl) rfl (Q_pickF rfl rfl) rfl rfl rfl ?_
          | refine S_q (Ent.re [1,2] rfl) rfl (Q_pickB rfl rfl rfl) rfl rfl rfl ?_
        first
          | refine S_q (Ent.re [1,2] rfl) rfl (Q_pickT rfl rfl) rfl rfl rfl ?_
          | refine S_q (Ent.re [1,2] rfl) rfl (Q_pickF rfl rfl) rfl rfl rfl ?_
          | refine S_q (Ent.re [1,2] rfl) rfl (Q_pickB rfl rfl rfl) rfl rfl rfl ?_
        refine S_nil ?_
        repeat first
          | refine J_seq ?_
          | refine seqQ_normal ?_
          | refine J_condT rfl ?_
          | refine J_condF rfl ?_
          | refine J_block ?_
          | refine blockQ_normal ?_
          | refine J_exit ?_
          | refine seqQ_exit ?_
          | refine blockQ_hit ?_
          | refine blockQ_miss rfl ?_
          | refine J_skip ?_
          | refine J_ret ?_
          | refine seqQ_ret ?_
          | refine blockQ_ret ?_
          | refine loopQ_exit ?_
          | refine loopQ_ret ?_
          | refine J_label ?_
        repeat first
          | refine J_seq ?_
          | refine seqQ_normal ?_
          | refine J_condT rfl ?_
          | refine J_condF rfl ?_
          | refine J_block ?_
          | refine blockQ_normal ?_
          | refine J_exit ?_
          | refine seqQ_exit ?_
          | refine blockQ_hit ?_
          | refine blockQ_miss rfl ?_
          | refine J_skip ?_
          | refine J_ret ?_
          | refine seqQ_ret ?_
          | refine blockQ_ret ?_
          | refine loopQ_exit ?_
          | refine loopQ_ret ?_
          | refine J_label ?_
        refine J_region ?_
        refine L_q (Q_move rfl) rfl rfl rfl ?_
        refine L_q (Q_assign rfl) rfl rfl rfl ?_
        refine JL_nil ?_
        repeat first
          | refine J_seq ?_
          | refine seqQ_normal ?_
          | refine J_condT rfl ?_
          | refine J_condF rfl ?_
          | refine J_block ?_
          | refine blockQ_normal ?_
          | refine J_exit ?_
          | refine seqQ_exit ?_
          | refine blockQ_hit ?_
          | refine blockQ_miss rfl ?_
          | refine J_skip ?_
          | refine J_ret ?_
          | refine seqQ_ret ?_
          | refine blockQ_ret ?_
          | refine loopQ_exit ?_
          | refine loopQ_ret ?_
          | refine J_label ?_
        repeat first
          | refine J_seq ?_
          | refine seqQ_normal ?_
          | refine J_condT rfl ?_
          | refine J_condF rfl ?_
          | refine J_block ?_
          | refine blockQ_normal ?_
          | refine J_exit ?_
          | refine seqQ_exit ?_
          | refine blockQ_hit ?_
          | refine blockQ_miss rfl ?_
          | refine J_skip ?_
          | refine J_ret ?_
          | refine seqQ_ret ?_
          | refine blockQ_ret ?_
          | refine loopQ_exit ?_
          | refine loopQ_ret ?_
          | refine J_label ?_
        refine J_region ?_
        refine L_q (Q_add rfl rfl (by first | exact IntWalk.i64_in _ (by omega) | exact IntWalk.u8_in _ (by omega) | exact IntWalk.u32_in _ (by omega) | exact IntWalk.u64_in _ (by omega) | rfl)) rfl rfl rfl ?_
        refine L_q (Q_move rfl) rfl rfl rfl ?_
        refine JL_nil ?_
        repeat first
          | refine J_seq ?_
          | refine seqQ_normal ?_
          | refine J_condT rfl ?_
          | refine J_condF rfl ?_
          | refine J_block ?_
          | refine blockQ_normal ?_
          | refine J_exit ?_
          | refine seqQ_exit ?_
          | refine blockQ_hit ?_
          | refine blockQ_miss rfl ?_
          | refine J_skip ?_
          | refine J_ret ?_
          | refine seqQ_ret ?_
          | refine blockQ_ret ?_
          | refine loopQ_exit ?_
          | refine loopQ_ret ?_
          | refine J_label ?_
        exact loopQ_normal 2 (by omega) (by omega) ⟨rfl, by rw [et]; rfl, rfl, rfl, trivial⟩ (Ent.re [2, 3, 0, 4] rfl)
      | true =>
        have ha12 : 12 ≤ a.length := by rcases hwa with h | h; exact h; rw [ea] at h; cases h
        repeat first
          | refine J_seq ?_
          | refine seqQ_normal ?_
          | refine J_condT rfl ?_
          | refine J_condF rfl ?_
          | refine J_block ?_
          | refine blockQ_normal ?_
          | refine J_exit ?_
          | refine seqQ_exit ?_
          | refine blockQ_hit ?_
          | refine blockQ_miss rfl ?_
          | refine J_skip ?_
          | refine J_ret ?_
          | refine seqQ_ret ?_
          | refine blockQ_ret ?_
          | refine loopQ_exit ?_
          | refine loopQ_ret ?_
          | refine J_label ?_
        refine J_region ?_
        refine L_q (Q_lss rfl rfl) rfl rfl rfl ?_
        refine JL_nil ?_
        repeat first
          | refine J_seq ?_
          | refine seqQ_normal ?_
          | refine J_condT rfl ?_
          | refine J_condF rfl ?_
          | refine J_block ?_
          | refine blockQ_normal ?_
          | refine J_exit ?_
          | refine seqQ_exit ?_
          | refine blockQ_hit ?_
          | refine blockQ_miss rfl ?_
          | refine J_skip ?_
          | refine J_ret ?_
          | refine seqQ_ret ?_
          | refine blockQ_ret ?_
          | refine loopQ_exit ?_
          | refine loopQ_ret ?_
          | refine J_label ?_
        repeat first
          | refine J_seq ?_
          | refine seqQ_normal ?_
          | refine J_condT rfl ?_
          | refine J_condF rfl ?_
          | refine J_block ?_
          | refine blockQ_normal ?_
          | refine J_exit ?_
          | refine seqQ_exit ?_
          | refine blockQ_hit ?_
          | refine blockQ_miss rfl ?_
          | refine J_skip ?_
          | refine J_ret ?_
          | refine seqQ_ret ?_
          | refine blockQ_ret ?_
          | refine loopQ_exit ?_
          | refine loopQ_ret ?_
          | refine J_label ?_
        refine J_region ?_
        refine L_q (Q_move rfl) rfl rfl rfl ?_
        refine L_q (Q_aiA 1 (vs := #[T.v]) rfl rfl rfl (by decide) rfl rfl) rfl rfl rfl ?_
        refine L_o rfl rfl rfl (O_alloc fun b5 => ?_)
        refine L_q (Q_assign rfl) rfl rfl rfl ?_
        first
          | refine L_s rfl rfl (O_stW 0 rfl rfl rfl rfl ?_)
          | refine L_s rfl rfl (O_stW 1 rfl rfl rfl rfl ?_)
          | refine L_s rfl rfl (O_stW 2 rfl rfl rfl rfl ?_)
          | refine L_s rfl rfl (O_stW 3 rfl rfl rfl rfl ?_)
          | refine L_s rfl rfl (O_stW 4 rfl rfl rfl rfl ?_)
        refine JL.norm ?_
        refine JL_nil ?_
        repeat first
          | refine J_seq ?_
          | refine seqQ_normal ?_
          | refine J_condT rfl ?_
          | refine J_condF rfl ?_
          | refine J_block ?_
          | refine blockQ_normal ?_
          | refine J_exit ?_
          | refine seqQ_exit ?_
          | refine blockQ_hit ?_
          | refine blockQ_miss rfl ?_
          | refine J_skip ?_
          | refine J_ret ?_
          | refine seqQ_ret ?_
          | refine blockQ_ret ?_
          | refine loopQ_exit ?_
          | refine loopQ_ret ?_
          | refine J_label ?_
        repeat first
          | refine J_seq ?_
          | refine seqQ_normal ?_
          | refine J_condT rfl ?_
          | refine J_condF rfl ?_
          | refine J_block ?_
          | refine blockQ_normal ?_
          | refine J_exit ?_
          | refine seqQ_exit ?_
          | refine blockQ_hit ?_
          | refine blockQ_miss rfl ?_
          | refine J_skip ?_
          | refine J_ret ?_
          | refine seqQ_ret ?_
          | refine blockQ_ret ?_
          | refine loopQ_exit ?_
          | refine loopQ_ret ?_
          | refine J_label ?_
        refine J_drawH [0,1] [0, 2, 3, 4, 5, 6, 8, 9, 10, 11, 12, 13, 14, 16, 17, 18, 19] (.quiet 0 (.loud 1 (.quiet 2 (.quiet 3 (.quiet 4 (.quiet 5 (.quiet 6 (.quiet 9 (.quiet 10 (.quiet 11 (.quiet 12 (.quiet 13 (.quiet 14 (.loud 7 (.quiet 8 (.loud 15 (.quiet 16 (.quiet 17 (.quiet 18 (.quiet 19 .done)))))))))))))))))))) Try.mixed (by kernel_rfl) (by kernel_rfl) (by repeat (first | exact retQ_noP | refine seqQ_noP ?_ | refine blockQ_noP ?_ | refine loopQ_noP ?_)) ?_
        first
          | refine S_q (Ent.re [0,1] rfl) rfl (Q_ldA 0 rfl rfl rfl) rfl rfl rfl ?_
          | refine S_q (Ent.re [0,1] rfl) rfl (Q_ldA 1 rfl rfl rfl) rfl rfl rfl ?_
          | refine S_q (Ent.re [0,1] rfl) rfl (Q_ldA 2 rfl rfl rfl) rfl rfl rfl ?_
          | refine S_q (Ent.re [0,1] rfl) rfl (Q_ldA 3 rfl rfl rfl) rfl rfl rfl ?_
          | refine S_q (Ent.re [0,1] rfl) rfl (Q_ldA 4 rfl rfl rfl) rfl rfl rfl ?_
        refine S_o rfl rfl rfl rfl (O_call [3] [0,1,2,4] hrb rfl rfl ?_)
        (rintro _ _ ⟨rfl, rfl⟩; refine ⟨_, fun _ => ⟨Ent.reN [1,2] rfl, Ent.refl _⟩, ?_⟩)
        refine JS.norm ?_
        refine S_q (Ent.re [1,2] rfl) rfl (Q_move rfl) rfl rfl rfl ?_
        refine S_q (Ent.re [1,2] rfl) rfl (Q_move rfl) rfl rfl rfl ?_
        refine S_q (Ent.re [1,2] rfl) rfl ((Q_lss rfl rfl).as (v' := .bool false) (congrArg Value.bool (decide_eq_false (by simp)))) rfl rfl rfl ?_
        refine S_q (Ent.re [1,2] rfl) rfl (Q_move rfl) rfl rfl rfl ?_
        first
          | refine S_q (Ent.re [1,2] rfl) rfl (Q_ldA 0 rfl rfl rfl) rfl rfl rfl ?_
          | refine S_q (Ent.re [1,2] rfl) rfl (Q_ldA 1 rfl rfl rfl) rfl rfl rfl ?_
          | refine S_q (Ent.re [1,2] rfl) rfl (Q_ldA 2 rfl rfl rfl) rfl rfl rfl ?_
          | refine S_q (Ent.re [1,2] rfl) rfl (Q_ldA 3 rfl rfl rfl) rfl rfl rfl ?_
          | refine S_q (Ent.re [1,2] rfl) rfl (Q_ldA 4 rfl rfl rfl) rfl rfl rfl ?_
        refine S_q (Ent.re [1,2] rfl) rfl (Q_move rfl) rfl rfl rfl ?_
        refine S_q (Ent.re [1,2] rfl) rfl (Q_move rfl) rfl rfl rfl ?_
        first
          | refine S_q (Ent.re [1,2] rfl) rfl (Q_pnil rfl) rfl rfl rfl ?_
          | refine S_q (Ent.re [1,2] rfl) rfl (Q_nilCheck rfl) rfl rfl rfl ?_
        first
          | refine S_q (Ent.re [1,2] rfl) rfl (Q_fa0 rfl) rfl rfl rfl ?_
          | refine S_q (Ent.re [1,2] rfl) rfl (Q_fa rfl rfl) rfl rfl rfl ?_
          | refine S_q (Ent.re [1,2] rfl) rfl (Q_pfa rfl) rfl rfl rfl ?_
        refine S_q (Ent.re [1,2] rfl) rfl (Q_ia (o' := 0) 0 rfl rfl rfl (by decide) (by decide)) rfl rfl rfl ?_
        first
          | refine S_q (Ent.re [1,2] rfl) rfl (Q_ldA 0 rfl rfl rfl) rfl rfl rfl ?_
          | refine S_q (Ent.re [1,2] rfl) rfl (Q_ldA 1 rfl rfl rfl) rfl rfl rfl ?_
          | refine S_q (Ent.re [1,2] rfl) rfl (Q_ldA 2 rfl rfl rfl) rfl rfl rfl ?_
          | refine S_q (Ent.re [1,2] rfl) rfl (Q_ldA 3 rfl rfl rfl) rfl rfl rfl ?_
          | refine S_q (Ent.re [1,2] rfl) rfl (Q_ldA 4 rfl rfl rfl) rfl rfl rfl ?_
        refine S_o rfl rfl rfl rfl (O_call [0] [1,2,3,4] (words_ok E T b hb12) rfl rfl ?_)
        (rintro _ _ ⟨rfl, rfl⟩; refine ⟨_, fun _ => ⟨Ent.reN [1,2] rfl, Ent.refl _⟩, ?_⟩)
        refine JS.norm ?_
        refine S_q (Ent.re [1,2] rfl) rfl (Q_aiS 1 rfl rfl rfl (by decide) rfl rfl) rfl rfl rfl ?_
        refine S_o rfl rfl rfl rfl (O_call [3] [0,1,2,4] (words_ok E S a ha12) rfl rfl ?_)
        (rintro _ _ ⟨rfl, rfl⟩; refine ⟨_, fun _ => ⟨Ent.reN [2,3] rfl, Ent.refl _⟩, ?_⟩)
        refine JS.norm ?_
        refine S_q (Ent.re [2,3] rfl) rfl (Q_aiS 1 rfl rfl rfl (by decide) rfl rfl) rfl rfl rfl ?_
        refine S_q (Ent.re [2,3] rfl) rfl (Q_gtr rfl rfl) rfl rfl rfl ?_
        first
          | refine S_q (Ent.re [2,3] rfl) rfl (Q_pickT rfl rfl) rfl rfl rfl ?_
          | refine S_q (Ent.re [2,3] rfl) rfl (Q_pickF rfl rfl) rfl rfl rfl ?_
          | refine S_q (Ent.re [2,3] rfl) rfl (Q_pickB rfl rfl rfl) rfl rfl rfl ?_
        first
          | refine S_q (Ent.re [2,3] rfl) rfl (Q_pickT rfl rfl) rfl rfl rfl ?_
          | refine S_q (Ent.re [2,3] rfl) rfl (Q_pickF rfl rfl) rfl rfl rfl ?_
          | refine S_q (Ent.re [2,3] rfl) rfl (Q_pickB rfl rfl rfl) rfl rfl rfl ?_
        refine S_nil ?_
        repeat first
          | refine J_seq ?_
          | refine seqQ_normal ?_
          | refine J_condT rfl ?_
          | refine J_condF rfl ?_
          | refine J_block ?_
          | refine blockQ_normal ?_
          | refine J_exit ?_
          | refine seqQ_exit ?_
          | refine blockQ_hit ?_
          | refine blockQ_miss rfl ?_
          | refine J_skip ?_
          | refine J_ret ?_
          | refine seqQ_ret ?_
          | refine blockQ_ret ?_
          | refine loopQ_exit ?_
          | refine loopQ_ret ?_
          | refine J_label ?_
        refine J_condD rfl (fun h3 => ?_) (fun h3 => ?_)
        · have et : told a b = 1 := by simp [told, eb, ea]; omega
          repeat first
            | refine J_seq ?_
            | refine seqQ_normal ?_
            | refine J_condT rfl ?_
            | refine J_condF rfl ?_
            | refine J_block ?_
            | refine blockQ_normal ?_
            | refine J_exit ?_
            | refine seqQ_exit ?_
            | refine blockQ_hit ?_
            | refine blockQ_miss rfl ?_
            | refine J_skip ?_
            | refine J_ret ?_
            | refine seqQ_ret ?_
            | refine blockQ_ret ?_
            | refine loopQ_exit ?_
            | refine loopQ_ret ?_
            | refine J_label ?_
          refine J_region ?_
          refine L_q (Q_move rfl) rfl rfl rfl ?_
          refine L_q (Q_assign rfl) rfl rfl rfl ?_
          refine JL_nil ?_
          repeat first
            | refine J_seq ?_
            | refine seqQ_normal ?_
            | refine J_condT rfl ?_
            | refine J_condF rfl ?_
            | refine J_block ?_
            | refine blockQ_normal ?_
            | refine J_exit ?_
            | refine seqQ_exit ?_
            | refine blockQ_hit ?_
            | refine blockQ_miss rfl ?_
            | refine J_skip ?_
            | refine J_ret ?_
            | refine seqQ_ret ?_
            | refine blockQ_ret ?_
            | refine loopQ_exit ?_
            | refine loopQ_ret ?_
            | refine J_label ?_
          repeat first
            | refine J_seq ?_
            | refine seqQ_normal ?_
            | refine J_condT rfl ?_
            | refine J_condF rfl ?_
            | refine J_block ?_
            | refine blockQ_normal ?_
            | refine J_exit ?_
            | refine seqQ_exit ?_
            | refine blockQ_hit ?_
            | refine blockQ_miss rfl ?_
            | refine J_skip ?_
            | refine J_ret ?_
            | refine seqQ_ret ?_
            | refine blockQ_ret ?_
            | refine loopQ_exit ?_
            | refine loopQ_ret ?_
            | refine J_label ?_
          refine J_region ?_
          refine L_q (Q_add rfl rfl (by first | exact IntWalk.i64_in _ (by omega) | exact IntWalk.u8_in _ (by omega) | exact IntWalk.u32_in _ (by omega) | exact IntWalk.u64_in _ (by omega) | rfl)) rfl rfl rfl ?_
          refine L_q (Q_move rfl) rfl rfl rfl ?_
          refine JL_nil ?_
          repeat first
            | refine J_seq ?_
            | refine seqQ_normal ?_
            | refine J_condT rfl ?_
            | refine J_condF rfl ?_
            | refine J_block ?_
            | refine blockQ_normal ?_
            | refine J_exit ?_
            | refine seqQ_exit ?_
            | refine blockQ_hit ?_
            | refine blockQ_miss rfl ?_
            | refine J_skip ?_
            | refine J_ret ?_
            | refine seqQ_ret ?_
            | refine blockQ_ret ?_
            | refine loopQ_exit ?_
            | refine loopQ_ret ?_
            | refine J_label ?_
          exact loopQ_normal 2 (by omega) (by omega) ⟨rfl, by rw [et]; rfl, rfl, rfl, trivial⟩ (Ent.re [3, 0, 1, 4] rfl)
        · have et : told a b = 0 := by simp [told, eb, ea]; omega
          repeat first
            | refine J_seq ?_
            | refine seqQ_normal ?_
            | refine J_condT rfl ?_
            | refine J_condF rfl ?_
            | refine J_block ?_
            | refine blockQ_normal ?_
            | refine J_exit ?_
            | refine seqQ_exit ?_
            | refine blockQ_hit ?_
            | refine blockQ_miss rfl ?_
            | refine J_skip ?_
            | refine J_ret ?_
            | refine seqQ_ret ?_
            | refine blockQ_ret ?_
            | refine loopQ_exit ?_
            | refine loopQ_ret ?_
            | refine J_label ?_
          refine J_region ?_
          refine L_q (Q_add rfl rfl (by first | exact IntWalk.i64_in _ (by omega) | exact IntWalk.u8_in _ (by omega) | exact IntWalk.u32_in _ (by omega) | exact IntWalk.u64_in _ (by omega) | rfl)) rfl rfl rfl ?_
          refine L_q (Q_move rfl) rfl rfl rfl ?_
          refine JL_nil ?_
          repeat first
            | refine J_seq ?_
            | refine seqQ_normal ?_
            | refine J_condT rfl ?_
            | refine J_condF rfl ?_
            | refine J_block ?_
            | refine blockQ_normal ?_
            | refine J_exit ?_
            | refine seqQ_exit ?_
            | refine blockQ_hit ?_
            | refine blockQ_miss rfl ?_
            | refine J_skip ?_
            | refine J_ret ?_
            | refine seqQ_ret ?_
            | refine blockQ_ret ?_
            | refine loopQ_exit ?_
            | refine loopQ_ret ?_
            | refine J_label ?_
          exact loopQ_normal 2 (by omega) (by omega) ⟨rfl, by rw [et]; rfl, rfl, rfl, trivial⟩ (Ent.re [3, 0, 1, 4] rfl)
  · obtain rfl : k = 0 := by omega
    cases ea : rightB a with
    | false =>
      rw [ea] at hra
      repeat first
        | refine J_seq ?_
        | refine seqQ_normal ?_
        | refine J_condT rfl ?_
        | refine J_condF rfl ?_
        | refine J_block ?_
        | refine blockQ_normal ?_
        | refine J_exit ?_
        | refine seqQ_exit ?_
        | refine blockQ_hit ?_
        | refine blockQ_miss rfl ?_
        | refine J_skip ?_
        | refine J_ret ?_
        | refine seqQ_ret ?_
        | refine blockQ_ret ?_
        | refine loopQ_exit ?_
        | refine loopQ_ret ?_
        | refine J_label ?_
      refine J_region ?_
      refine L_q (Q_lss rfl rfl) rfl rfl rfl ?_
      refine JL_nil ?_
      repeat first
        | refine J_seq ?_
        | refine seqQ_normal ?_
        | refine J_condT rfl ?_
        | refine J_condF rfl ?_
        | refine J_block ?_
        | refine blockQ_normal ?_
        | refine J_exit ?_
        | refine seqQ_exit ?_
        | refine blockQ_hit ?_
        | refine blockQ_miss rfl ?_
        | refine J_skip ?_
        | refine J_ret ?_
        | refine seqQ_ret ?_
        | refine blockQ_ret ?_
        | refine loopQ_exit ?_
        | refine loopQ_ret ?_
        | refine J_label ?_
      repeat first
        | refine J_seq ?_
        | refine seqQ_normal ?_
        | refine J_condT rfl ?_
        | refine J_condF rfl ?_
        | refine J_block ?_
        | refine blockQ_normal ?_
        | refine J_exit ?_
        | refine seqQ_exit ?_
        | refine blockQ_hit ?_
        | refine blockQ_miss rfl ?_
        | refine J_skip ?_
        | refine J_ret ?_
        | refine seqQ_ret ?_
        | refine blockQ_ret ?_
        | refine loopQ_exit ?_
        | refine loopQ_ret ?_
        | refine J_label ?_
      refine J_region ?_
      refine L_q (Q_move rfl) rfl rfl rfl ?_
      refine L_q (Q_aiA 0 (vs := #[S.v]) rfl rfl rfl (by decide) rfl rfl) rfl rfl rfl ?_
      refine L_o rfl rfl rfl (O_alloc fun b5 => ?_)
      refine L_q (Q_assign rfl) rfl rfl rfl ?_
      first
        | refine L_s rfl rfl (O_stW 0 rfl rfl rfl rfl ?_)
        | refine L_s rfl rfl (O_stW 1 rfl rfl rfl rfl ?_)
        | refine L_s rfl rfl (O_stW 2 rfl rfl rfl rfl ?_)
        | refine L_s rfl rfl (O_stW 3 rfl rfl rfl rfl ?_)
        | refine L_s rfl rfl (O_stW 4 rfl rfl rfl rfl ?_)
      refine JL.norm ?_
      refine JL_nil ?_
      repeat first
        | refine J_seq ?_
        | refine seqQ_normal ?_
        | refine J_condT rfl ?_
        | refine J_condF rfl ?_
        | refine J_block ?_
        | refine blockQ_normal ?_
        | refine J_exit ?_
        | refine seqQ_exit ?_
        | refine blockQ_hit ?_
        | refine blockQ_miss rfl ?_
        | refine J_skip ?_
        | refine J_ret ?_
        | refine seqQ_ret ?_
        | refine blockQ_ret ?_
        | refine loopQ_exit ?_
        | refine loopQ_ret ?_
        | refine J_label ?_
      repeat first
        | refine J_seq ?_
        | refine seqQ_normal ?_
        | refine J_condT rfl ?_
        | refine J_condF rfl ?_
        | refine J_block ?_
        | refine blockQ_normal ?_
        | refine J_exit ?_
        | refine seqQ_exit ?_
        | refine blockQ_hit ?_
        | refine blockQ_miss rfl ?_
        | refine J_skip ?_
        | refine J_ret ?_
        | refine seqQ_ret ?_
        | refine blockQ_ret ?_
        | refine loopQ_exit ?_
        | refine loopQ_ret ?_
        | refine J_label ?_
      refine J_drawH [0,1] [0, 2, 3, 4, 5, 6, 8, 9, 10, 11, 12, 13, 14, 16, 17, 18, 19] (.quiet 0 (.loud 1 (.quiet 2 (.quiet 3 (.quiet 4 (.quiet 5 (.quiet 6 (.quiet 9 (.quiet 10 (.quiet 11 (.quiet 12 (.quiet 13 (.quiet 14 (.loud 7 (.quiet 8 (.loud 15 (.quiet 16 (.quiet 17 (.quiet 18 (.quiet 19 .done)))))))))))))))))))) Try.mixed (by kernel_rfl) (by kernel_rfl) (by repeat (first | exact retQ_noP | refine seqQ_noP ?_ | refine blockQ_noP ?_ | refine loopQ_noP ?_)) ?_
      first
        | refine S_q (Ent.re [0,1] rfl) rfl (Q_ldA 0 rfl rfl rfl) rfl rfl rfl ?_
        | refine S_q (Ent.re [0,1] rfl) rfl (Q_ldA 1 rfl rfl rfl) rfl rfl rfl ?_
        | refine S_q (Ent.re [0,1] rfl) rfl (Q_ldA 2 rfl rfl rfl) rfl rfl rfl ?_
        | refine S_q (Ent.re [0,1] rfl) rfl (Q_ldA 3 rfl rfl rfl) rfl rfl rfl ?_
        | refine S_q (Ent.re [0,1] rfl) rfl (Q_ldA 4 rfl rfl rfl) rfl rfl rfl ?_
      refine S_o rfl rfl rfl rfl (O_call [2] [0,1,3,4] hra rfl rfl ?_)
      (rintro _ _ ⟨rfl, rfl⟩; refine ⟨_, fun _ => ⟨Ent.reN [1,2] rfl, Ent.refl _⟩, ?_⟩)
      refine JS.norm ?_
      refine S_q (Ent.re [1,2] rfl) rfl (Q_move rfl) rfl rfl rfl ?_
      refine S_n (Ent.re [1,2] rfl) rfl rfl rfl rfl ?_
      refine S_n (Ent.re [1,2] rfl) rfl rfl rfl rfl ?_
      refine S_n (Ent.re [1,2] rfl) rfl rfl rfl rfl ?_
      refine S_n (Ent.re [1,2] rfl) rfl rfl rfl rfl ?_
      refine S_n (Ent.re [1,2] rfl) rfl rfl rfl rfl ?_
      refine S_n (Ent.re [1,2] rfl) rfl rfl rfl rfl ?_
      refine S_n (Ent.re [1,2] rfl) rfl rfl rfl rfl ?_
      refine S_n (Ent.re [1,2] rfl) rfl rfl rfl rfl ?_
      refine S_n (Ent.re [1,2] rfl) rfl rfl rfl rfl ?_
      refine S_n (Ent.re [1,2] rfl) rfl rfl rfl rfl ?_
      refine S_no rfl rfl rfl rfl (fun _ => (Ent.re [1,2] rfl)) ?_
      refine S_n (Ent.re [1,2] rfl) rfl rfl rfl rfl ?_
      refine S_no rfl rfl rfl rfl (fun _ => (Ent.re [1,2] rfl)) ?_
      refine S_n (Ent.re [1,2] rfl) rfl rfl rfl rfl ?_
      refine S_n (Ent.re [1,2] rfl) rfl rfl rfl rfl ?_
      refine S_n (Ent.re [1,2] rfl) rfl rfl rfl rfl ?_
      first
        | refine S_q (Ent.re [1,2] rfl) rfl (Q_pickT rfl rfl) rfl rfl rfl ?_
        | refine S_q (Ent.re [1,2] rfl) rfl (Q_pickF rfl rfl) rfl rfl rfl ?_
        | refine S_q (Ent.re [1,2] rfl) rfl (Q_pickB rfl rfl rfl) rfl rfl rfl ?_
      refine S_nil ?_
      repeat first
        | refine J_seq ?_
        | refine seqQ_normal ?_
        | refine J_condT rfl ?_
        | refine J_condF rfl ?_
        | refine J_block ?_
        | refine blockQ_normal ?_
        | refine J_exit ?_
        | refine seqQ_exit ?_
        | refine blockQ_hit ?_
        | refine blockQ_miss rfl ?_
        | refine J_skip ?_
        | refine J_ret ?_
        | refine seqQ_ret ?_
        | refine blockQ_ret ?_
        | refine loopQ_exit ?_
        | refine loopQ_ret ?_
        | refine J_label ?_
      repeat first
        | refine J_seq ?_
        | refine seqQ_normal ?_
        | refine J_condT rfl ?_
        | refine J_condF rfl ?_
        | refine J_block ?_
        | refine blockQ_normal ?_
        | refine J_exit ?_
        | refine seqQ_exit ?_
        | refine blockQ_hit ?_
        | refine blockQ_miss rfl ?_
        | refine J_skip ?_
        | refine J_ret ?_
        | refine seqQ_ret ?_
        | refine blockQ_ret ?_
        | refine loopQ_exit ?_
        | refine loopQ_ret ?_
        | refine J_label ?_
      refine J_region ?_
      refine L_q (Q_add rfl rfl (by first | exact IntWalk.i64_in _ (by omega) | exact IntWalk.u8_in _ (by omega) | exact IntWalk.u32_in _ (by omega) | exact IntWalk.u64_in _ (by omega) | rfl)) rfl rfl rfl ?_
      refine L_q (Q_move rfl) rfl rfl rfl ?_
      refine JL_nil ?_
      repeat first
        | refine J_seq ?_
        | refine seqQ_normal ?_
        | refine J_condT rfl ?_
        | refine J_condF rfl ?_
        | refine J_block ?_
        | refine blockQ_normal ?_
        | refine J_exit ?_
        | refine seqQ_exit ?_
        | refine blockQ_hit ?_
        | refine blockQ_miss rfl ?_
        | refine J_skip ?_
        | refine J_ret ?_
        | refine seqQ_ret ?_
        | refine blockQ_ret ?_
        | refine loopQ_exit ?_
        | refine loopQ_ret ?_
        | refine J_label ?_
      exact loopQ_normal 1 (by omega) (by omega) ⟨rfl, by rfl, rfl, rfl, trivial⟩ (Ent.re [2, 0, 3, 4] rfl)
    | true =>
      rw [ea] at hra
      repeat first
        | refine J_seq ?_
        | refine seqQ_normal ?_
        | refine J_condT rfl ?_
        | refine J_condF rfl ?_
        | refine J_block ?_
        | refine blockQ_normal ?_
        | refine J_exit ?_
        | refine seqQ_exit ?_
        | refine blockQ_hit ?_
        | refine blockQ_miss rfl ?_
        | refine J_skip ?_
        | refine J_ret ?_
        | refine seqQ_ret ?_
        | refine blockQ_ret ?_
        | refine loopQ_exit ?_
        | refine loopQ_ret ?_
        | refine J_label ?_
      refine J_region ?_
      refine L_q (Q_lss rfl rfl) rfl rfl rfl ?_
      refine JL_nil ?_
      repeat first
        | refine J_seq ?_
        | refine seqQ_normal ?_
        | refine J_condT rfl ?_
        | refine J_condF rfl ?_
        | refine J_block ?_
        | refine blockQ_normal ?_
        | refine J_exit ?_
        | refine seqQ_exit ?_
        | refine blockQ_hit ?_
        | refine blockQ_miss rfl ?_
        | refine J_skip ?_
        | refine J_ret ?_
        | refine seqQ_ret ?_
        | refine blockQ_ret ?_
        | refine loopQ_exit ?_
        | refine loopQ_ret ?_
        | refine J_label ?_
      repeat first
        | refine J_seq ?_
        | refine seqQ_normal ?_
        | refine J_condT rfl ?_
        | refine J_condF rfl ?_
        | refine J_block ?_
        | refine blockQ_normal ?_
        | refine J_exit ?_
        | refine seqQ_exit ?_
        | refine blockQ_hit ?_
        | refine blockQ_miss rfl ?_
        | refine J_skip ?_
        | refine J_ret ?_
        | refine seqQ_ret ?_
        | refine blockQ_ret ?_
        | refine loopQ_exit ?_
        | refine loopQ_ret ?_
        | refine J_label ?_
      refine J_region ?_
      refine L_q (Q_move rfl) rfl rfl rfl ?_
      refine L_q (Q_aiA 0 (vs := #[S.v]) rfl rfl rfl (by decide) rfl rfl) rfl rfl rfl ?_
      refine L_o rfl rfl rfl (O_alloc fun b5 => ?_)
      refine L_q (Q_assign rfl) rfl rfl rfl ?_
      first
        | refine L_s rfl rfl (O_stW 0 rfl rfl rfl rfl ?_)
        | refine L_s rfl rfl (O_stW 1 rfl rfl rfl rfl ?_)
        | refine L_s rfl rfl (O_stW 2 rfl rfl rfl rfl ?_)
        | refine L_s rfl rfl (O_stW 3 rfl rfl rfl rfl ?_)
        | refine L_s rfl rfl (O_stW 4 rfl rfl rfl rfl ?_)
      refine JL.norm ?_
      refine JL_nil ?_
      repeat first
        | refine J_seq ?_
        | refine seqQ_normal ?_
        | refine J_condT rfl ?_
        | refine J_condF rfl ?_
        | refine J_block ?_
        | refine blockQ_normal ?_
        | refine J_exit ?_
        | refine seqQ_exit ?_
        | refine blockQ_hit ?_
        | refine blockQ_miss rfl ?_
        | refine J_skip ?_
        | refine J_ret ?_
        | refine seqQ_ret ?_
        | refine blockQ_ret ?_
        | refine loopQ_exit ?_
        | refine loopQ_ret ?_
        | refine J_label ?_
      repeat first
        | refine J_seq ?_
        | refine seqQ_normal ?_
        | refine J_condT rfl ?_
        | refine J_condF rfl ?_
        | refine J_block ?_
        | refine blockQ_normal ?_
        | refine J_exit ?_
        | refine seqQ_exit ?_
        | refine blockQ_hit ?_
        | refine blockQ_miss rfl ?_
        | refine J_skip ?_
        | refine J_ret ?_
        | refine seqQ_ret ?_
        | refine blockQ_ret ?_
        | refine loopQ_exit ?_
        | refine loopQ_ret ?_
        | refine J_label ?_
      refine J_drawH [0,1] [0, 2, 3, 4, 5, 6, 8, 9, 10, 11, 12, 13, 14, 16, 17, 18, 19] (.quiet 0 (.loud 1 (.quiet 2 (.quiet 3 (.quiet 4 (.quiet 5 (.quiet 6 (.quiet 9 (.quiet 10 (.quiet 11 (.quiet 12 (.quiet 13 (.quiet 14 (.loud 7 (.quiet 8 (.loud 15 (.quiet 16 (.quiet 17 (.quiet 18 (.quiet 19 .done)))))))))))))))))))) Try.mixed (by kernel_rfl) (by kernel_rfl) (by repeat (first | exact retQ_noP | refine seqQ_noP ?_ | refine blockQ_noP ?_ | refine loopQ_noP ?_)) ?_
      first
        | refine S_q (Ent.re [0,1] rfl) rfl (Q_ldA 0 rfl rfl rfl) rfl rfl rfl ?_
        | refine S_q (Ent.re [0,1] rfl) rfl (Q_ldA 1 rfl rfl rfl) rfl rfl rfl ?_
        | refine S_q (Ent.re [0,1] rfl) rfl (Q_ldA 2 rfl rfl rfl) rfl rfl rfl ?_
        | refine S_q (Ent.re [0,1] rfl) rfl (Q_ldA 3 rfl rfl rfl) rfl rfl rfl ?_
        | refine S_q (Ent.re [0,1] rfl) rfl (Q_ldA 4 rfl rfl rfl) rfl rfl rfl ?_
      refine S_o rfl rfl rfl rfl (O_call [2] [0,1,3,4] hra rfl rfl ?_)
      (rintro _ _ ⟨rfl, rfl⟩; refine ⟨_, fun _ => ⟨Ent.reN [1,2] rfl, Ent.refl _⟩, ?_⟩)
      refine JS.norm ?_
      refine S_q (Ent.re [1,2] rfl) rfl (Q_move rfl) rfl rfl rfl ?_
      refine S_q (Ent.re [1,2] rfl) rfl (Q_move rfl) rfl rfl rfl ?_
      refine S_q (Ent.re [1,2] rfl) rfl ((Q_lss rfl rfl).as (v' := .bool true) (congrArg Value.bool (decide_eq_true (by simp)))) rfl rfl rfl ?_
      refine S_q (Ent.re [1,2] rfl) rfl (Q_move rfl) rfl rfl rfl ?_
      refine S_n (Ent.re [1,2] rfl) rfl rfl rfl rfl ?_
      refine S_n (Ent.re [1,2] rfl) rfl rfl rfl rfl ?_
      refine S_n (Ent.re [1,2] rfl) rfl rfl rfl rfl ?_
      refine S_n (Ent.re [1,2] rfl) rfl rfl rfl rfl ?_
      refine S_n (Ent.re [1,2] rfl) rfl rfl rfl rfl ?_
      refine S_n (Ent.re [1,2] rfl) rfl rfl rfl rfl ?_
      refine S_n (Ent.re [1,2] rfl) rfl rfl rfl rfl ?_
      refine S_no rfl rfl rfl rfl (fun _ => (Ent.re [1,2] rfl)) ?_
      refine S_n (Ent.re [1,2] rfl) rfl rfl rfl rfl ?_
      refine S_no rfl rfl rfl rfl (fun _ => (Ent.re [1,2] rfl)) ?_
      refine S_n (Ent.re [1,2] rfl) rfl rfl rfl rfl ?_
      refine S_n (Ent.re [1,2] rfl) rfl rfl rfl rfl ?_
      first
        | refine S_q (Ent.re [1,2] rfl) rfl (Q_pickT rfl rfl) rfl rfl rfl ?_
        | refine S_q (Ent.re [1,2] rfl) rfl (Q_pickF rfl rfl) rfl rfl rfl ?_
        | refine S_q (Ent.re [1,2] rfl) rfl (Q_pickB rfl rfl rfl) rfl rfl rfl ?_
      first
        | refine S_q (Ent.re [1,2] rfl) rfl (Q_pickT rfl rfl) rfl rfl rfl ?_
        | refine S_q (Ent.re [1,2] rfl) rfl (Q_pickF rfl rfl) rfl rfl rfl ?_
        | refine S_q (Ent.re [1,2] rfl) rfl (Q_pickB rfl rfl rfl) rfl rfl rfl ?_
      refine S_nil ?_
      repeat first
        | refine J_seq ?_
        | refine seqQ_normal ?_
        | refine J_condT rfl ?_
        | refine J_condF rfl ?_
        | refine J_block ?_
        | refine blockQ_normal ?_
        | refine J_exit ?_
        | refine seqQ_exit ?_
        | refine blockQ_hit ?_
        | refine blockQ_miss rfl ?_
        | refine J_skip ?_
        | refine J_ret ?_
        | refine seqQ_ret ?_
        | refine blockQ_ret ?_
        | refine loopQ_exit ?_
        | refine loopQ_ret ?_
        | refine J_label ?_
      repeat first
        | refine J_seq ?_
        | refine seqQ_normal ?_
        | refine J_condT rfl ?_
        | refine J_condF rfl ?_
        | refine J_block ?_
        | refine blockQ_normal ?_
        | refine J_exit ?_
        | refine seqQ_exit ?_
        | refine blockQ_hit ?_
        | refine blockQ_miss rfl ?_
        | refine J_skip ?_
        | refine J_ret ?_
        | refine seqQ_ret ?_
        | refine blockQ_ret ?_
        | refine loopQ_exit ?_
        | refine loopQ_ret ?_
        | refine J_label ?_
      refine J_region ?_
      refine L_q (Q_move rfl) rfl rfl rfl ?_
      refine L_q (Q_assign rfl) rfl rfl rfl ?_
      refine JL_nil ?_
      repeat first
        | refine J_seq ?_
        | refine seqQ_normal ?_
        | refine J_condT rfl ?_
        | refine J_condF rfl ?_
        | refine J_block ?_
        | refine blockQ_normal ?_
        | refine J_exit ?_
        | refine seqQ_exit ?_
        | refine blockQ_hit ?_
        | refine blockQ_miss rfl ?_
        | refine J_skip ?_
        | refine J_ret ?_
        | refine seqQ_ret ?_
        | refine blockQ_ret ?_
        | refine loopQ_exit ?_
        | refine loopQ_ret ?_
        | refine J_label ?_
      repeat first
        | refine J_seq ?_
        | refine seqQ_normal ?_
        | refine J_condT rfl ?_
        | refine J_condF rfl ?_
        | refine J_block ?_
        | refine blockQ_normal ?_
        | refine J_exit ?_
        | refine seqQ_exit ?_
        | refine blockQ_hit ?_
        | refine blockQ_miss rfl ?_
        | refine J_skip ?_
        | refine J_ret ?_
        | refine seqQ_ret ?_
        | refine blockQ_ret ?_
        | refine loopQ_exit ?_
        | refine loopQ_ret ?_
        | refine J_label ?_
      refine J_region ?_
      refine L_q (Q_add rfl rfl (by first | exact IntWalk.i64_in _ (by omega) | exact IntWalk.u8_in _ (by omega) | exact IntWalk.u32_in _ (by omega) | exact IntWalk.u64_in _ (by omega) | rfl)) rfl rfl rfl ?_
      refine L_q (Q_move rfl) rfl rfl rfl ?_
      refine JL_nil ?_
      repeat first
        | refine J_seq ?_
        | refine seqQ_normal ?_
        | refine J_condT rfl ?_
        | refine J_condF rfl ?_
        | refine J_block ?_
        | refine blockQ_normal ?_
        | refine J_exit ?_
        | refine seqQ_exit ?_
        | refine blockQ_hit ?_
        | refine blockQ_miss rfl ?_
        | refine J_skip ?_
        | refine J_ret ?_
        | refine seqQ_ret ?_
        | refine blockQ_ret ?_
        | refine loopQ_exit ?_
        | refine loopQ_ret ?_
        | refine J_label ?_
      exact loopQ_normal 1 (by omega) (by omega) ⟨rfl, by rfl, rfl, rfl, trivial⟩ (Ent.re [2, 0, 3, 4] rfl)
end Go.Proofs
