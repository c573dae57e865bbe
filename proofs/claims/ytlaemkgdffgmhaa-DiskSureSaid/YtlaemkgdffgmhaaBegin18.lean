/- The law DiskBegins: its walk. -/
import Derived.Test.YtlaemkgdffgmhaaFew18
set_option autoImplicit false
namespace Go.Proofs
open Go.SL
attribute [local irreducible] J JL QOp JOp seqQ blockQ loopQ retQ slc cel hex star pur stars Does RV Ent pAt
theorem lor_one (i : Nat) (h : i < 64) : IntKind.u64.wrap ((BitVec.ofInt IntKind.u64.bits (IntKind.u64.wrap ((((2 ^ i - 1 : Nat)) : Int) * 2 ^ (min (1 : Int).toNat IntKind.u64.bits))) ||| BitVec.ofInt IntKind.u64.bits 1).toNat : Int) = ((2 ^ (i + 1) - 1 : Nat) : Int) := by
  obtain ⟨h1, h2⟩ := or_one i h
  have e1 : ((((2 ^ i - 1 : Nat)) : Int) * 2 ^ (min (1 : Int).toNat IntKind.u64.bits)) = (((2 ^ i - 1) * 2 : Nat) : Int) := by
    rw [show min (1 : Int).toNat IntKind.u64.bits = 1 by decide]; push_cast; rfl
  have h3 : 2 ^ (i + 1) - 1 < 2 ^ 64 := by have := Nat.pow_le_pow_right (n := 2) (by decide) (show i + 1 ≤ 64 by omega); have := Nat.two_pow_pos 64; omega
  have e2 : IntKind.u64.wrap (((2 ^ i - 1) * 2 : Nat) : Int) = (((2 ^ i - 1) * 2 : Nat) : Int) := IntWalk.u64_in _ (by omega)
  rw [e1, e2]
  show IntKind.u64.wrap ((BitVec.ofInt 64 _ ||| BitVec.ofInt 64 ((1 : Nat) : Int)).toNat : Int) = _
  rw [BitVec.ofInt_natCast, BitVec.ofInt_natCast, BitVec.toNat_or, BitVec.toNat_ofNat, BitVec.toNat_ofNat, Nat.mod_eq_of_lt h2, Nat.mod_eq_of_lt (by decide), h1]
  exact IntWalk.u64_in _ (by omega)
theorem begins_calls (E : World) (S : SV) (l : List Ac) (m : Int) (hl : ∀ a ∈ l, a.keep < 2 ^ 64) : Does Try.prog E 6 [S.v, .int .i64 m] [slc tAct false S l] fun v L => v = .bool true ∧ L = [] := by
  have hf := few_ok E S l
  refine Does.of Try.func6 rfl Try.ntmps6 rfl rfl fun F => ?_
  refine J.norm ?_
  cases hb : fewB l with
  | false =>
    rw [hb] at hf
    repeat first
      | refine J_seq ?_
      | refine seqQ_normal ?_
      | refine J_condT rfl ?_
      | refine J_condF rfl ?_
      | refine J_block ?_
      | refine blockQ_normal ?_
      | refine J_exit ?_
      | refine seqQ_exit ?_
      | refine blockQ_hit ?_
      | refine blockQ_miss rfl ?_
      | refine J_skip ?_
      | refine J_ret ?_
      | refine seqQ_ret ?_
      | refine blockQ_ret ?_
      | refine loopQ_exit ?_
      | refine loopQ_ret ?_
      | refine J_label ?_
    refine J_region ?_
    refine L_q (Q_assign rfl) rfl rfl rfl ?_
    refine JL_nil ?_
    repeat first
      | refine J_seq ?_
      | refine seqQ_normal ?_
      | refine J_condT rfl ?_
      | refine J_condF rfl ?_
      | refine J_block ?_
      | refine blockQ_normal ?_
      | refine J_exit ?_
      | refine seqQ_exit ?_
      | refine blockQ_hit ?_
      | refine blockQ_miss rfl ?_
      | refine J_skip ?_
      | refine J_ret ?_
      | refine seqQ_ret ?_
      | refine blockQ_ret ?_
      | refine loopQ_exit ?_
      | refine loopQ_ret ?_
      | refine J_label ?_
    repeat first
      | refine J_seq ?_
      | refine seqQ_normal ?_
      | refine J_condT rfl ?_
      | refine J_condF rfl ?_
      | refine J_block ?_
      | refine blockQ_normal ?_
      | refine J_exit ?_
      | refine seqQ_exit ?_
      | refine blockQ_hit ?_
      | refine blockQ_miss rfl ?_
      | refine J_skip ?_
      | refine J_ret ?_
      | refine seqQ_ret ?_
      | refine blockQ_ret ?_
      | refine loopQ_exit ?_
      | refine loopQ_ret ?_
      | refine J_label ?_
    refine J_region ?_
    refine L_q (Q_move rfl) rfl rfl rfl ?_
    refine L_o rfl rfl rfl (O_call [0] [1] hf rfl rfl ?_)
    rintro _ _ ⟨rfl, rfl⟩
    refine JL.norm ?_
    first
      | refine L_q (Q_notD rfl) rfl rfl rfl ?_
      | refine L_q (Q_not rfl) rfl rfl rfl ?_
    refine L_q (Q_move rfl) rfl rfl rfl ?_
    refine L_n rfl rfl rfl ?_
    refine L_n rfl rfl rfl ?_
    first
      | refine L_q (Q_pickT rfl rfl) rfl rfl rfl ?_
      | refine L_q (Q_pickF rfl rfl) rfl rfl rfl ?_
      | refine L_q (Q_pickB rfl rfl rfl) rfl rfl rfl ?_
    refine L_q (Q_move rfl) rfl rfl rfl ?_
    refine L_n rfl rfl rfl ?_
    refine L_n rfl rfl rfl ?_
    first
      | refine L_q (Q_pickT rfl rfl) rfl rfl rfl ?_
      | refine L_q (Q_pickF rfl rfl) rfl rfl rfl ?_
      | refine L_q (Q_pickB rfl rfl rfl) rfl rfl rfl ?_
    refine JL_nil ?_
    repeat first
      | refine J_seq ?_
      | refine seqQ_normal ?_
      | refine J_condT rfl ?_
      | refine J_condF rfl ?_
      | refine J_block ?_
      | refine blockQ_normal ?_
      | refine J_exit ?_
      | refine seqQ_exit ?_
      | refine blockQ_hit ?_
      | refine blockQ_miss rfl ?_
      | refine J_skip ?_
      | refine J_ret ?_
      | refine seqQ_ret ?_
      | refine blockQ_ret ?_
      | refine loopQ_exit ?_
      | refine loopQ_ret ?_
      | refine J_label ?_
    repeat first
      | refine J_seq ?_
      | refine seqQ_normal ?_
      | refine J_condT rfl ?_
      | refine J_condF rfl ?_
      | refine J_block ?_
      | refine blockQ_normal ?_
      | refine J_exit ?_
      | refine seqQ_exit ?_
      | refine blockQ_hit ?_
      | refine blockQ_miss rfl ?_
      | refine J_skip ?_
      | refine J_ret ?_
      | refine seqQ_ret ?_
      | refine blockQ_ret ?_
      | refine loopQ_exit ?_
      | refine loopQ_ret ?_
      | refine J_label ?_
    refine J_region ?_
    refine L_o rfl rfl rfl (O_call [] [0,1] (awake_ok E) rfl rfl ?_)
    rintro _ _ ⟨rfl, rfl⟩
    refine JL.norm ?_
    refine L_q (Q_assign rfl) rfl rfl rfl ?_
    refine JL_nil ?_
    repeat first
      | refine J_seq ?_
      | refine seqQ_normal ?_
      | refine J_condT rfl ?_
      | refine J_condF rfl ?_
      | refine J_block ?_
      | refine blockQ_normal ?_
      | refine J_exit ?_
      | refine seqQ_exit ?_
      | refine blockQ_hit ?_
      | refine blockQ_miss rfl ?_
      | refine J_skip ?_
      | refine J_ret ?_
      | refine seqQ_ret ?_
      | refine blockQ_ret ?_
      | refine loopQ_exit ?_
      | refine loopQ_ret ?_
      | refine J_label ?_
    exact retQ_ret _ [] (.cons (RV_tmp rfl) .nil) ⟨rfl, rfl⟩ (Ent.re [1] rfl)
  | true =>
    rw [hb] at hf
    have hl40 := (few_text hb).1
    repeat first
      | refine J_seq ?_
      | refine seqQ_normal ?_
      | refine J_condT rfl ?_
      | refine J_condF rfl ?_
      | refine J_block ?_
      | refine blockQ_normal ?_
      | refine J_exit ?_
      | refine seqQ_exit ?_
      | refine blockQ_hit ?_
      | refine blockQ_miss rfl ?_
      | refine J_skip ?_
      | refine J_ret ?_
      | refine seqQ_ret ?_
      | refine blockQ_ret ?_
      | refine loopQ_exit ?_
      | refine loopQ_ret ?_
      | refine J_label ?_
    refine J_region ?_
    refine L_q (Q_assign rfl) rfl rfl rfl ?_
    refine JL_nil ?_
    repeat first
      | refine J_seq ?_
      | refine seqQ_normal ?_
      | refine J_condT rfl ?_
      | refine J_condF rfl ?_
      | refine J_block ?_
      | refine blockQ_normal ?_
      | refine J_exit ?_
      | refine seqQ_exit ?_
      | refine blockQ_hit ?_
      | refine blockQ_miss rfl ?_
      | refine J_skip ?_
      | refine J_ret ?_
      | refine seqQ_ret ?_
      | refine blockQ_ret ?_
      | refine loopQ_exit ?_
      | refine loopQ_ret ?_
      | refine J_label ?_
    by_cases hm : m < 0
    · repeat first
        | refine J_seq ?_
        | refine seqQ_normal ?_
        | refine J_condT rfl ?_
        | refine J_condF rfl ?_
        | refine J_block ?_
        | refine blockQ_normal ?_
        | refine J_exit ?_
        | refine seqQ_exit ?_
        | refine blockQ_hit ?_
        | refine blockQ_miss rfl ?_
        | refine J_skip ?_
        | refine J_ret ?_
        | refine seqQ_ret ?_
        | refine blockQ_ret ?_
        | refine loopQ_exit ?_
        | refine loopQ_ret ?_
        | refine J_label ?_
      refine J_region ?_
      refine L_q (Q_move rfl) rfl rfl rfl ?_
      refine L_o rfl rfl rfl (O_call [0] [1] hf rfl rfl ?_)
      rintro _ _ ⟨rfl, rfl⟩
      refine JL.norm ?_
      first
        | refine L_q (Q_notD rfl) rfl rfl rfl ?_
        | refine L_q (Q_not rfl) rfl rfl rfl ?_
      refine L_q (Q_move rfl) rfl rfl rfl ?_
      refine L_q (Q_move rfl) rfl rfl rfl ?_
      refine L_q ((Q_lss rfl rfl).as (v' := .bool true) (congrArg Value.bool (decide_eq_true hm))) rfl rfl rfl ?_
      first
        | refine L_q (Q_pickT rfl rfl) rfl rfl rfl ?_
        | refine L_q (Q_pickF rfl rfl) rfl rfl rfl ?_
        | refine L_q (Q_pickB rfl rfl rfl) rfl rfl rfl ?_
      refine L_q (Q_move rfl) rfl rfl rfl ?_
      refine L_n rfl rfl rfl ?_
      refine L_n rfl rfl rfl ?_
      first
        | refine L_q (Q_pickT rfl rfl) rfl rfl rfl ?_
        | refine L_q (Q_pickF rfl rfl) rfl rfl rfl ?_
        | refine L_q (Q_pickB rfl rfl rfl) rfl rfl rfl ?_
      refine JL_nil ?_
      repeat first
        | refine J_seq ?_
        | refine seqQ_normal ?_
        | refine J_condT rfl ?_
        | refine J_condF rfl ?_
        | refine J_block ?_
        | refine blockQ_normal ?_
        | refine J_exit ?_
        | refine seqQ_exit ?_
        | refine blockQ_hit ?_
        | refine blockQ_miss rfl ?_
        | refine J_skip ?_
        | refine J_ret ?_
        | refine seqQ_ret ?_
        | refine blockQ_ret ?_
        | refine loopQ_exit ?_
        | refine loopQ_ret ?_
        | refine J_label ?_
      repeat first
        | refine J_seq ?_
        | refine seqQ_normal ?_
        | refine J_condT rfl ?_
        | refine J_condF rfl ?_
        | refine J_block ?_
        | refine blockQ_normal ?_
        | refine J_exit ?_
        | refine seqQ_exit ?_
        | refine blockQ_hit ?_
        | refine blockQ_miss rfl ?_
        | refine J_skip ?_
        | refine J_ret ?_
        | refine seqQ_ret ?_
        | refine blockQ_ret ?_
        | refine loopQ_exit ?_
        | refine loopQ_ret ?_
        | refine J_label ?_
      refine J_region ?_
      refine L_o rfl rfl rfl (O_call [] [0,1] (awake_ok E) rfl rfl ?_)
      rintro _ _ ⟨rfl, rfl⟩
      refine JL.norm ?_
      refine L_q (Q_assign rfl) rfl rfl rfl ?_
      refine JL_nil ?_
      repeat first
        | refine J_seq ?_
        | refine seqQ_normal ?_
        | refine J_condT rfl ?_
        | refine J_condF rfl ?_
        | refine J_block ?_
        | refine blockQ_normal ?_
        | refine J_exit ?_
        | refine seqQ_exit ?_
        | refine blockQ_hit ?_
        | refine blockQ_miss rfl ?_
        | refine J_skip ?_
        | refine J_ret ?_
        | refine seqQ_ret ?_
        | refine blockQ_ret ?_
        | refine loopQ_exit ?_
        | refine loopQ_ret ?_
        | refine J_label ?_
      exact retQ_ret _ [] (.cons (RV_tmp rfl) .nil) ⟨rfl, rfl⟩ (Ent.re [1] rfl)
    repeat first
      | refine J_seq ?_
      | refine seqQ_normal ?_
      | refine J_condT rfl ?_
      | refine J_condF rfl ?_
      | refine J_block ?_
      | refine blockQ_normal ?_
      | refine J_exit ?_
      | refine seqQ_exit ?_
      | refine blockQ_hit ?_
      | refine blockQ_miss rfl ?_
      | refine J_skip ?_
      | refine J_ret ?_
      | refine seqQ_ret ?_
      | refine blockQ_ret ?_
      | refine loopQ_exit ?_
      | refine loopQ_ret ?_
      | refine J_label ?_
    refine J_region ?_
    refine L_q (Q_move rfl) rfl rfl rfl ?_
    refine L_o rfl rfl rfl (O_call [0] [1] hf rfl rfl ?_)
    rintro _ _ ⟨rfl, rfl⟩
    refine JL.norm ?_
    first
      | refine L_q (Q_notD rfl) rfl rfl rfl ?_
      | refine L_q (Q_not rfl) rfl rfl rfl ?_
    refine L_q (Q_move rfl) rfl rfl rfl ?_
    refine L_q (Q_move rfl) rfl rfl rfl ?_
    refine L_q ((Q_lss rfl rfl).as (v' := .bool false) (congrArg Value.bool (decide_eq_false hm))) rfl rfl rfl ?_
    first
      | refine L_q (Q_pickT rfl rfl) rfl rfl rfl ?_
      | refine L_q (Q_pickF rfl rfl) rfl rfl rfl ?_
      | refine L_q (Q_pickB rfl rfl rfl) rfl rfl rfl ?_
    refine L_q (Q_move rfl) rfl rfl rfl ?_
    refine L_q (Q_move rfl) rfl rfl rfl ?_
    refine L_q (Q_gtr rfl rfl) rfl rfl rfl ?_
    first
      | refine L_q (Q_pickT rfl rfl) rfl rfl rfl ?_
      | refine L_q (Q_pickF rfl rfl) rfl rfl rfl ?_
      | refine L_q (Q_pickB rfl rfl rfl) rfl rfl rfl ?_
    refine JL_nil ?_
    repeat first
      | refine J_seq ?_
      | refine seqQ_normal ?_
      | refine J_condT rfl ?_
      | refine J_condF rfl ?_
      | refine J_block ?_
      | refine blockQ_normal ?_
      | refine J_exit ?_
      | refine seqQ_exit ?_
      | refine blockQ_hit ?_
      | refine blockQ_miss rfl ?_
      | refine J_skip ?_
      | refine J_ret ?_
      | refine seqQ_ret ?_
      | refine blockQ_ret ?_
      | refine loopQ_exit ?_
      | refine loopQ_ret ?_
      | refine J_label ?_
    refine J_condD rfl (fun h0 => ?_) (fun h0 => ?_)
    · repeat first
        | refine J_seq ?_
        | refine seqQ_normal ?_
        | refine J_condT rfl ?_
        | refine J_condF rfl ?_
        | refine J_block ?_
        | refine blockQ_normal ?_
        | refine J_exit ?_
        | refine seqQ_exit ?_
        | refine blockQ_hit ?_
        | refine blockQ_miss rfl ?_
        | refine J_skip ?_
        | refine J_ret ?_
        | refine seqQ_ret ?_
        | refine blockQ_ret ?_
        | refine loopQ_exit ?_
        | refine loopQ_ret ?_
        | refine J_label ?_
      refine J_region ?_
      refine L_o rfl rfl rfl (O_call [] [0,1] (awake_ok E) rfl rfl ?_)
      rintro _ _ ⟨rfl, rfl⟩
      refine JL.norm ?_
      refine L_q (Q_assign rfl) rfl rfl rfl ?_
      refine JL_nil ?_
      repeat first
        | refine J_seq ?_
        | refine seqQ_normal ?_
        | refine J_condT rfl ?_
        | refine J_condF rfl ?_
        | refine J_block ?_
        | refine blockQ_normal ?_
        | refine J_exit ?_
        | refine seqQ_exit ?_
        | refine blockQ_hit ?_
        | refine blockQ_miss rfl ?_
        | refine J_skip ?_
        | refine J_ret ?_
        | refine seqQ_ret ?_
        | refine blockQ_ret ?_
        | refine loopQ_exit ?_
        | refine loopQ_ret ?_
        | refine J_label ?_
      exact retQ_ret _ [] (.cons (RV_tmp rfl) .nil) ⟨rfl, rfl⟩ (Ent.re [1] rfl)
    · obtain ⟨mm, rfl⟩ : ∃ mm : Nat, m = (mm : Int) := ⟨m.toNat, by omega⟩
      have hm64 : mm ≤ 64 := by omega
      repeat first
        | refine J_seq ?_
        | refine seqQ_normal ?_
        | refine J_condT rfl ?_
        | refine J_condF rfl ?_
        | refine J_block ?_
        | refine blockQ_normal ?_
        | refine J_exit ?_
        | refine seqQ_exit ?_
        | refine blockQ_hit ?_
        | refine blockQ_miss rfl ?_
        | refine J_skip ?_
        | refine J_ret ?_
        | refine seqQ_ret ?_
        | refine blockQ_ret ?_
        | refine loopQ_exit ?_
        | refine loopQ_ret ?_
        | refine J_label ?_
      refine J_region ?_
      refine L_o rfl rfl rfl (O_call [] [0,1] (new_ok E) rfl rfl ?_)
      rintro _ _ ⟨p, rfl, rfl⟩
      refine JL.norm ?_
      refine L_q (Q_assign rfl) rfl rfl rfl ?_
      refine JL_nil ?_
      repeat first
        | refine J_seq ?_
        | refine seqQ_normal ?_
        | refine J_condT rfl ?_
        | refine J_condF rfl ?_
        | refine J_block ?_
        | refine blockQ_normal ?_
        | refine J_exit ?_
        | refine seqQ_exit ?_
        | refine blockQ_hit ?_
        | refine blockQ_miss rfl ?_
        | refine J_skip ?_
        | refine J_ret ?_
        | refine seqQ_ret ?_
        | refine blockQ_ret ?_
        | refine loopQ_exit ?_
        | refine loopQ_ret ?_
        | refine J_label ?_
      repeat first
        | refine J_seq ?_
        | refine seqQ_normal ?_
        | refine J_condT rfl ?_
        | refine J_condF rfl ?_
        | refine J_block ?_
        | refine blockQ_normal ?_
        | refine J_exit ?_
        | refine seqQ_exit ?_
        | refine blockQ_hit ?_
        | refine blockQ_miss rfl ?_
        | refine J_skip ?_
        | refine J_ret ?_
        | refine seqQ_ret ?_
        | refine blockQ_ret ?_
        | refine loopQ_exit ?_
        | refine loopQ_ret ?_
        | refine J_label ?_
      refine J_region ?_
      refine L_q (Q_assign rfl) rfl rfl rfl ?_
      refine JL_nil ?_
      repeat first
        | refine J_seq ?_
        | refine seqQ_normal ?_
        | refine J_condT rfl ?_
        | refine J_condF rfl ?_
        | refine J_block ?_
        | refine blockQ_normal ?_
        | refine J_exit ?_
        | refine seqQ_exit ?_
        | refine blockQ_hit ?_
        | refine blockQ_miss rfl ?_
        | refine J_skip ?_
        | refine J_ret ?_
        | refine seqQ_ret ?_
        | refine blockQ_ret ?_
        | refine loopQ_exit ?_
        | refine loopQ_ret ?_
        | refine J_label ?_
      refine J_loop (fun k => k ≤ l.length) (fun k => [(0, S.v), (1, .int .i64 (mm : Int)), (5, .pointer (some ⟨p, 0, none⟩)), (6, .int .i64 (k : Int))])
        (fun k => [diskAt p (plays (l.take k)), slc tAct false S l, F]) (fun k => l.length - k) 0 (by simp) ⟨rfl, rfl, rfl, rfl, trivial⟩ (Ent.refl _) ?_
      intro k hk'
      have hd := plays_ok (l.take k)
      repeat first
        | refine J_seq ?_
        | refine seqQ_normal ?_
        | refine J_condT rfl ?_
        | refine J_condF rfl ?_
        | refine J_block ?_
        | refine blockQ_normal ?_
        | refine J_exit ?_
        | refine seqQ_exit ?_
        | refine blockQ_hit ?_
        | refine blockQ_miss rfl ?_
        | refine J_skip ?_
        | refine J_ret ?_
        | refine seqQ_ret ?_
        | refine blockQ_ret ?_
        | refine loopQ_exit ?_
        | refine loopQ_ret ?_
        | refine J_label ?_
      refine J_region ?_
      refine L_q (Q_move rfl) rfl rfl rfl ?_
      refine L_q (Q_move rfl) rfl rfl rfl ?_
      first
        | refine L_q (Q_lenAt 0 rfl rfl) rfl rfl rfl ?_
        | refine L_q (Q_lenAt 1 rfl rfl) rfl rfl rfl ?_
        | refine L_q (Q_lenAt 2 rfl rfl) rfl rfl rfl ?_
        | refine L_q (Q_lenAt 3 rfl rfl) rfl rfl rfl ?_
        | refine L_q (Q_lenAt 4 rfl rfl) rfl rfl rfl ?_
      refine L_q (Q_lss rfl rfl) rfl rfl rfl ?_
      refine JL_nil ?_
      repeat first
        | refine J_seq ?_
        | refine seqQ_normal ?_
        | refine J_condT rfl ?_
        | refine J_condF rfl ?_
        | refine J_block ?_
        | refine blockQ_normal ?_
        | refine J_exit ?_
        | refine seqQ_exit ?_
        | refine blockQ_hit ?_
        | refine blockQ_miss rfl ?_
        | refine J_skip ?_
        | refine J_ret ?_
        | refine seqQ_ret ?_
        | refine blockQ_ret ?_
        | refine loopQ_exit ?_
        | refine loopQ_ret ?_
        | refine J_label ?_
      refine J_condD rfl (fun h => ?_) (fun h => ?_)
      · have hlt : k < l.length := by omega
        have ho := do_ok E p _ l[k] (hl l[k] (List.getElem_mem hlt)) hd
        rw [← plays_succ l k hlt] at ho
        repeat first
          | refine J_seq ?_
          | refine seqQ_normal ?_
          | refine J_condT rfl ?_
          | refine J_condF rfl ?_
          | refine J_block ?_
          | refine blockQ_normal ?_
          | refine J_exit ?_
          | refine seqQ_exit ?_
          | refine blockQ_hit ?_
          | refine blockQ_miss rfl ?_
          | refine J_skip ?_
          | refine J_ret ?_
          | refine seqQ_ret ?_
          | refine blockQ_ret ?_
          | refine loopQ_exit ?_
          | refine loopQ_ret ?_
          | refine J_label ?_
        refine J_region ?_
        refine L_q (Q_move rfl) rfl rfl rfl ?_
        refine L_q (Q_move rfl) rfl rfl rfl ?_
        refine L_q (Q_move rfl) rfl rfl rfl ?_
        refine L_q (Q_ixAt 1 k rfl rfl rfl rfl hlt rfl) rfl rfl rfl ?_
        refine L_q (Q_ldEAAt 1 k 0 (vs := tAct.enc l[k]) rfl rfl rfl rfl hlt (by decide) rfl) rfl rfl rfl ?_
        refine L_o rfl rfl rfl (O_call [0] [1,2] ho rfl rfl ?_)
        rintro _ _ ⟨rfl, rfl⟩
        refine JL.norm ?_
        refine JL_nil ?_
        repeat first
          | refine J_seq ?_
          | refine seqQ_normal ?_
          | refine J_condT rfl ?_
          | refine J_condF rfl ?_
          | refine J_block ?_
          | refine blockQ_normal ?_
          | refine J_exit ?_
          | refine seqQ_exit ?_
          | refine blockQ_hit ?_
          | refine blockQ_miss rfl ?_
          | refine J_skip ?_
          | refine J_ret ?_
          | refine seqQ_ret ?_
          | refine blockQ_ret ?_
          | refine loopQ_exit ?_
          | refine loopQ_ret ?_
          | refine J_label ?_
        repeat first
          | refine J_seq ?_
          | refine seqQ_normal ?_
          | refine J_condT rfl ?_
          | refine J_condF rfl ?_
          | refine J_block ?_
          | refine blockQ_normal ?_
          | refine J_exit ?_
          | refine seqQ_exit ?_
          | refine blockQ_hit ?_
          | refine blockQ_miss rfl ?_
          | refine J_skip ?_
          | refine J_ret ?_
          | refine seqQ_ret ?_
          | refine blockQ_ret ?_
          | refine loopQ_exit ?_
          | refine loopQ_ret ?_
          | refine J_label ?_
        refine J_region ?_
        refine L_q (Q_move rfl) rfl rfl rfl ?_
        refine L_q (Q_add rfl rfl (by first | exact IntWalk.i64_in _ (by omega) | exact IntWalk.u8_in _ (by omega) | exact IntWalk.u32_in _ (by omega) | exact IntWalk.u64_in _ (by omega) | rfl)) rfl rfl rfl ?_
        refine L_q (Q_assign rfl) rfl rfl rfl ?_
        refine JL_nil ?_
        repeat first
          | refine J_seq ?_
          | refine seqQ_normal ?_
          | refine J_condT rfl ?_
          | refine J_condF rfl ?_
          | refine J_block ?_
          | refine blockQ_normal ?_
          | refine J_exit ?_
          | refine seqQ_exit ?_
          | refine blockQ_hit ?_
          | refine blockQ_miss rfl ?_
          | refine J_skip ?_
          | refine J_ret ?_
          | refine seqQ_ret ?_
          | refine blockQ_ret ?_
          | refine loopQ_exit ?_
          | refine loopQ_ret ?_
          | refine J_label ?_
        exact loopQ_normal (k + 1) hlt (by omega) ⟨rfl, rfl, rfl, rfl, trivial⟩ (Ent.refl _)
      · generalize plays (l.take k) = d at hd ⊢
        repeat first
          | refine J_seq ?_
          | refine seqQ_normal ?_
          | refine J_condT rfl ?_
          | refine J_condF rfl ?_
          | refine J_block ?_
          | refine blockQ_normal ?_
          | refine J_exit ?_
          | refine seqQ_exit ?_
          | refine blockQ_hit ?_
          | refine blockQ_miss rfl ?_
          | refine J_skip ?_
          | refine J_ret ?_
          | refine seqQ_ret ?_
          | refine blockQ_ret ?_
          | refine loopQ_exit ?_
          | refine loopQ_ret ?_
          | refine J_label ?_
        refine J_region ?_
        refine L_q (Q_move rfl) rfl rfl rfl ?_
        refine L_o rfl rfl rfl (O_call [0] [1,2] (text_ok E p _) rfl rfl ?_)
        rintro _ _ ⟨rfl, rfl⟩
        refine JL.norm ?_
        refine L_q (Q_assign rfl) rfl rfl rfl ?_
        refine JL_nil ?_
        repeat first
          | refine J_seq ?_
          | refine seqQ_normal ?_
          | refine J_condT rfl ?_
          | refine J_condF rfl ?_
          | refine J_block ?_
          | refine blockQ_normal ?_
          | refine J_exit ?_
          | refine seqQ_exit ?_
          | refine blockQ_hit ?_
          | refine blockQ_miss rfl ?_
          | refine J_skip ?_
          | refine J_ret ?_
          | refine seqQ_ret ?_
          | refine blockQ_ret ?_
          | refine loopQ_exit ?_
          | refine loopQ_ret ?_
          | refine J_label ?_
        repeat first
          | refine J_seq ?_
          | refine seqQ_normal ?_
          | refine J_condT rfl ?_
          | refine J_condF rfl ?_
          | refine J_block ?_
          | refine blockQ_normal ?_
          | refine J_exit ?_
          | refine seqQ_exit ?_
          | refine blockQ_hit ?_
          | refine blockQ_miss rfl ?_
          | refine J_skip ?_
          | refine J_ret ?_
          | refine seqQ_ret ?_
          | refine blockQ_ret ?_
          | refine loopQ_exit ?_
          | refine loopQ_ret ?_
          | refine J_label ?_
        refine J_region ?_
        refine L_q (Q_assign rfl) rfl rfl rfl ?_
        refine JL_nil ?_
        repeat first
          | refine J_seq ?_
          | refine seqQ_normal ?_
          | refine J_condT rfl ?_
          | refine J_condF rfl ?_
          | refine J_block ?_
          | refine blockQ_normal ?_
          | refine J_exit ?_
          | refine seqQ_exit ?_
          | refine blockQ_hit ?_
          | refine blockQ_miss rfl ?_
          | refine J_skip ?_
          | refine J_ret ?_
          | refine seqQ_ret ?_
          | refine blockQ_ret ?_
          | refine loopQ_exit ?_
          | refine loopQ_ret ?_
          | refine J_label ?_
        repeat first
          | refine J_seq ?_
          | refine seqQ_normal ?_
          | refine J_condT rfl ?_
          | refine J_condF rfl ?_
          | refine J_block ?_
          | refine blockQ_normal ?_
          | refine J_exit ?_
          | refine seqQ_exit ?_
          | refine blockQ_hit ?_
          | refine blockQ_miss rfl ?_
          | refine J_skip ?_
          | refine J_ret ?_
          | refine seqQ_ret ?_
          | refine blockQ_ret ?_
          | refine loopQ_exit ?_
          | refine loopQ_ret ?_
          | refine J_label ?_
        refine J_region ?_
        refine L_q (Q_assign rfl) rfl rfl rfl ?_
        refine JL_nil ?_
        repeat first
          | refine J_seq ?_
          | refine seqQ_normal ?_
          | refine J_condT rfl ?_
          | refine J_condF rfl ?_
          | refine J_block ?_
          | refine blockQ_normal ?_
          | refine J_exit ?_
          | refine seqQ_exit ?_
          | refine blockQ_hit ?_
          | refine blockQ_miss rfl ?_
          | refine J_skip ?_
          | refine J_ret ?_
          | refine seqQ_ret ?_
          | refine blockQ_ret ?_
          | refine loopQ_exit ?_
          | refine loopQ_ret ?_
          | refine J_label ?_
        refine J_loop (fun i => i ≤ mm) (fun i => [(1, .int .i64 (mm : Int)), (5, .pointer (some ⟨p, 0, none⟩)), (7, str d.b), (8, .int .u64 ((2 ^ i - 1 : Nat) : Int)), (9, .int .i64 (i : Int))])
          (fun _ => [diskAt p d, F]) (fun i => mm - i) 0 (by omega) ⟨rfl, rfl, rfl, rfl, rfl, trivial⟩ (Ent.re [0, 2] rfl) ?_
        intro i hi
        repeat first
          | refine J_seq ?_
          | refine seqQ_normal ?_
          | refine J_condT rfl ?_
          | refine J_condF rfl ?_
          | refine J_block ?_
          | refine blockQ_normal ?_
          | refine J_exit ?_
          | refine seqQ_exit ?_
          | refine blockQ_hit ?_
          | refine blockQ_miss rfl ?_
          | refine J_skip ?_
          | refine J_ret ?_
          | refine seqQ_ret ?_
          | refine blockQ_ret ?_
          | refine loopQ_exit ?_
          | refine loopQ_ret ?_
          | refine J_label ?_
        refine J_region ?_
        refine L_q (Q_move rfl) rfl rfl rfl ?_
        refine L_q (Q_move rfl) rfl rfl rfl ?_
        refine L_q (Q_lss rfl rfl) rfl rfl rfl ?_
        refine JL_nil ?_
        repeat first
          | refine J_seq ?_
          | refine seqQ_normal ?_
          | refine J_condT rfl ?_
          | refine J_condF rfl ?_
          | refine J_block ?_
          | refine blockQ_normal ?_
          | refine J_exit ?_
          | refine seqQ_exit ?_
          | refine blockQ_hit ?_
          | refine blockQ_miss rfl ?_
          | refine J_skip ?_
          | refine J_ret ?_
          | refine seqQ_ret ?_
          | refine blockQ_ret ?_
          | refine loopQ_exit ?_
          | refine loopQ_ret ?_
          | refine J_label ?_
        refine J_condD rfl (fun h2 => ?_) (fun h2 => ?_)
        · have hlt : i < mm := by omega
          repeat first
            | refine J_seq ?_
            | refine seqQ_normal ?_
            | refine J_condT rfl ?_
            | refine J_condF rfl ?_
            | refine J_block ?_
            | refine blockQ_normal ?_
            | refine J_exit ?_
            | refine seqQ_exit ?_
            | refine blockQ_hit ?_
            | refine blockQ_miss rfl ?_
            | refine J_skip ?_
            | refine J_ret ?_
            | refine seqQ_ret ?_
            | refine blockQ_ret ?_
            | refine loopQ_exit ?_
            | refine loopQ_ret ?_
            | refine J_label ?_
          refine J_region ?_
          refine L_q (Q_move rfl) rfl rfl rfl ?_
          refine L_q (Q_shl rfl rfl (by decide) rfl) rfl rfl rfl ?_
          refine L_q (Q_or rfl rfl (lor_one i (by omega))) rfl rfl rfl ?_
          refine L_q (Q_assign rfl) rfl rfl rfl ?_
          refine JL_nil ?_
          repeat first
            | refine J_seq ?_
            | refine seqQ_normal ?_
            | refine J_condT rfl ?_
            | refine J_condF rfl ?_
            | refine J_block ?_
            | refine blockQ_normal ?_
            | refine J_exit ?_
            | refine seqQ_exit ?_
            | refine blockQ_hit ?_
            | refine blockQ_miss rfl ?_
            | refine J_skip ?_
            | refine J_ret ?_
            | refine seqQ_ret ?_
            | refine blockQ_ret ?_
            | refine loopQ_exit ?_
            | refine loopQ_ret ?_
            | refine J_label ?_
          repeat first
            | refine J_seq ?_
            | refine seqQ_normal ?_
            | refine J_condT rfl ?_
            | refine J_condF rfl ?_
            | refine J_block ?_
            | refine blockQ_normal ?_
            | refine J_exit ?_
            | refine seqQ_exit ?_
            | refine blockQ_hit ?_
            | refine blockQ_miss rfl ?_
            | refine J_skip ?_
            | refine J_ret ?_
            | refine seqQ_ret ?_
            | refine blockQ_ret ?_
            | refine loopQ_exit ?_
            | refine loopQ_ret ?_
            | refine J_label ?_
          refine J_region ?_
          refine L_q (Q_move rfl) rfl rfl rfl ?_
          refine L_q (Q_add rfl rfl (by first | exact IntWalk.i64_in _ (by omega) | exact IntWalk.u8_in _ (by omega) | exact IntWalk.u32_in _ (by omega) | exact IntWalk.u64_in _ (by omega) | rfl)) rfl rfl rfl ?_
          refine L_q (Q_assign rfl) rfl rfl rfl ?_
          refine JL_nil ?_
          repeat first
            | refine J_seq ?_
            | refine seqQ_normal ?_
            | refine J_condT rfl ?_
            | refine J_condF rfl ?_
            | refine J_block ?_
            | refine blockQ_normal ?_
            | refine J_exit ?_
            | refine seqQ_exit ?_
            | refine blockQ_hit ?_
            | refine blockQ_miss rfl ?_
            | refine J_skip ?_
            | refine J_ret ?_
            | refine seqQ_ret ?_
            | refine blockQ_ret ?_
            | refine loopQ_exit ?_
            | refine loopQ_ret ?_
            | refine J_label ?_
          exact loopQ_normal (i + 1) hlt (by omega) ⟨rfl, rfl, rfl, rfl, rfl, trivial⟩ (Ent.refl _)
        · obtain rfl : i = mm := by omega
          have h3 : 2 ^ i - 1 < 2 ^ 64 := by have := Nat.pow_le_pow_right (n := 2) (by decide) hi; have := Nat.pow_le_pow_right (n := 2) (by decide) hm64; have := Nat.two_pow_pos 64; omega
          have ho := do_ok E p d ⟨3, [], 2 ^ i - 1⟩ h3 hd
          have e : doD d ⟨3, [], 2 ^ i - 1⟩ = (⟨tear d (2 ^ i - 1), (tear d (2 ^ i - 1)).length⟩, 0) := rfl
          have ht := tear_begin d _ (kb_mono i d.s)
          have ht2 := (tear_length d (2 ^ i - 1) hd.1).2
          rw [e] at ho
          generalize endTo (2 ^ i - 1) d.s (d.b.length - d.s) = j at ht
          generalize tear d (2 ^ i - 1) = now at ho ht ht2
          have h4 : now = d.b.take now.length := by
            rw [ht, List.length_take]
            by_cases hj : j ≤ d.b.length
            · rw [Nat.min_eq_left hj]
            · rw [Nat.min_eq_right (by omega), List.take_of_length_le (by omega), List.take_of_length_le (by omega)]
          repeat first
            | refine J_seq ?_
            | refine seqQ_normal ?_
            | refine J_condT rfl ?_
            | refine J_condF rfl ?_
            | refine J_block ?_
            | refine blockQ_normal ?_
            | refine J_exit ?_
            | refine seqQ_exit ?_
            | refine blockQ_hit ?_
            | refine blockQ_miss rfl ?_
            | refine J_skip ?_
            | refine J_ret ?_
            | refine seqQ_ret ?_
            | refine blockQ_ret ?_
            | refine loopQ_exit ?_
            | refine loopQ_ret ?_
            | refine J_label ?_
          refine J_region ?_
          refine L_q (Q_move rfl) rfl rfl rfl ?_
          refine L_q (Q_move rfl) rfl rfl rfl ?_
          refine L_q (Q_build rfl) rfl rfl rfl ?_
          refine L_o rfl rfl rfl (O_call [0] [1] ho rfl rfl ?_)
          rintro _ _ ⟨rfl, rfl⟩
          refine JL.norm ?_
          refine JL_nil ?_
          repeat first
            | refine J_seq ?_
            | refine seqQ_normal ?_
            | refine J_condT rfl ?_
            | refine J_condF rfl ?_
            | refine J_block ?_
            | refine blockQ_normal ?_
            | refine J_exit ?_
            | refine seqQ_exit ?_
            | refine blockQ_hit ?_
            | refine blockQ_miss rfl ?_
            | refine J_skip ?_
            | refine J_ret ?_
            | refine seqQ_ret ?_
            | refine blockQ_ret ?_
            | refine loopQ_exit ?_
            | refine loopQ_ret ?_
            | refine J_label ?_
          repeat first
            | refine J_seq ?_
            | refine seqQ_normal ?_
            | refine J_condT rfl ?_
            | refine J_condF rfl ?_
            | refine J_block ?_
            | refine blockQ_normal ?_
            | refine J_exit ?_
            | refine seqQ_exit ?_
            | refine blockQ_hit ?_
            | refine blockQ_miss rfl ?_
            | refine J_skip ?_
            | refine J_ret ?_
            | refine seqQ_ret ?_
            | refine blockQ_ret ?_
            | refine loopQ_exit ?_
            | refine loopQ_ret ?_
            | refine J_label ?_
          refine J_region ?_
          refine L_q (Q_move rfl) rfl rfl rfl ?_
          refine L_o rfl rfl rfl (O_call [0] [1] (text_ok E p _) rfl rfl ?_)
          rintro _ _ ⟨rfl, rfl⟩
          refine JL.norm ?_
          refine L_q (Q_assign rfl) rfl rfl rfl ?_
          refine JL_nil ?_
          repeat first
            | refine J_seq ?_
            | refine seqQ_normal ?_
            | refine J_condT rfl ?_
            | refine J_condF rfl ?_
            | refine J_block ?_
            | refine blockQ_normal ?_
            | refine J_exit ?_
            | refine seqQ_exit ?_
            | refine blockQ_hit ?_
            | refine blockQ_miss rfl ?_
            | refine J_skip ?_
            | refine J_ret ?_
            | refine seqQ_ret ?_
            | refine blockQ_ret ?_
            | refine loopQ_exit ?_
            | refine loopQ_ret ?_
            | refine J_label ?_
          repeat first
            | refine J_seq ?_
            | refine seqQ_normal ?_
            | refine J_condT rfl ?_
            | refine J_condF rfl ?_
            | refine J_block ?_
            | refine blockQ_normal ?_
            | refine J_exit ?_
            | refine seqQ_exit ?_
            | refine blockQ_hit ?_
            | refine blockQ_miss rfl ?_
            | refine J_skip ?_
            | refine J_ret ?_
            | refine seqQ_ret ?_
            | refine blockQ_ret ?_
            | refine loopQ_exit ?_
            | refine loopQ_ret ?_
            | refine J_label ?_
          refine J_region ?_
          refine L_q (Q_move rfl) rfl rfl rfl ?_
          refine L_q (Q_slen rfl) rfl rfl rfl ?_
          refine L_q (Q_move rfl) rfl rfl rfl ?_
          refine L_q (Q_slen rfl) rfl rfl rfl ?_
          refine L_q ((Q_leq rfl rfl).as (v' := .bool true) (congrArg Value.bool (decide_eq_true (by simp only; omega)))) rfl rfl rfl ?_
          refine L_q (Q_move rfl) rfl rfl rfl ?_
          refine L_q (Q_move rfl) rfl rfl rfl ?_
          refine L_q (Q_move rfl) rfl rfl rfl ?_
          refine L_q (Q_move rfl) rfl rfl rfl ?_
          refine L_q (Q_slen rfl) rfl rfl rfl ?_
          refine L_q (Q_ssH now.length rfl rfl rfl ht2) rfl rfl rfl ?_
          refine L_q ((Q_seql rfl rfl).as (v' := .bool true) (congrArg Value.bool (decide_eq_true h4))) rfl rfl rfl ?_
          first
            | refine L_q (Q_pickT rfl rfl) rfl rfl rfl ?_
            | refine L_q (Q_pickF rfl rfl) rfl rfl rfl ?_
            | refine L_q (Q_pickB rfl rfl rfl) rfl rfl rfl ?_
          refine L_q (Q_move rfl) rfl rfl rfl ?_
          refine L_o rfl rfl rfl (O_call [] [0,1] (awake_ok E) rfl rfl ?_)
          rintro _ _ ⟨rfl, rfl⟩
          refine JL.norm ?_
          first
            | refine L_q (Q_pickT rfl rfl) rfl rfl rfl ?_
            | refine L_q (Q_pickF rfl rfl) rfl rfl rfl ?_
            | refine L_q (Q_pickB rfl rfl rfl) rfl rfl rfl ?_
          refine L_q (Q_assign rfl) rfl rfl rfl ?_
          refine JL_nil ?_
          repeat first
            | refine J_seq ?_
            | refine seqQ_normal ?_
            | refine J_condT rfl ?_
            | refine J_condF rfl ?_
            | refine J_block ?_
            | refine blockQ_normal ?_
            | refine J_exit ?_
            | refine seqQ_exit ?_
            | refine blockQ_hit ?_
            | refine blockQ_miss rfl ?_
            | refine J_skip ?_
            | refine J_ret ?_
            | refine seqQ_ret ?_
            | refine blockQ_ret ?_
            | refine loopQ_exit ?_
            | refine loopQ_ret ?_
            | refine J_label ?_
          exact retQ_ret _ [] (.cons (RV_tmp rfl) .nil) ⟨rfl, rfl⟩ (Ent.re [1] rfl)
end Go.Proofs
