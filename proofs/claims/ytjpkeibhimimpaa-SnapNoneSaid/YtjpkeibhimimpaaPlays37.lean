/- The law SnapPlays: its walk. -/
import Derived.Test.YtjpkeibhimimpaaTurnP
set_option autoImplicit false
namespace Go.Proofs
open Go.SL
theorem doSpoil_out (a b : List UInt8) : doSpoil a b 2 0 1 = (a, b, false) := by unfold doSpoil; rw [if_pos (by omega)]
attribute [local irreducible] J JL QOp JOp seqQ blockQ loopQ retQ slc cel hex star pur stars Does RV Ent pAt
theorem plays_calls (E : World) (S : SV) (l : List De) : Does Try.prog E 5 [S.v] [slc tDe false S l] fun v L => v = .bool true ∧ L = [] := by
  have hf := few_ok E S l
  refine Does.of Try.func5 rfl Try.ntmps5 rfl rfl fun F => ?_
  refine J.norm ?_
  cases hb : fewB l with
  | false =>
    rw [hb] at hf
    repeat first
      | refine J_seq ?_
      | refine seqQ_normal ?_
      | refine J_condT rfl ?_
      | refine J_condF rfl ?_
      | refine J_block ?_
      | refine blockQ_normal ?_
      | refine J_exit ?_
      | refine seqQ_exit ?_
      | refine blockQ_hit ?_
      | refine blockQ_miss rfl ?_
      | refine J_skip ?_
      | refine J_ret ?_
      | refine seqQ_ret ?_
      | refine blockQ_ret ?_
      | refine loopQ_exit ?_
      | refine loopQ_ret ?_
      | refine J_label ?_
    refine J_region ?_
    refine L_q (Q_assign rfl) rfl rfl rfl ?_
    refine JL_nil ?_
    repeat first
      | refine J_seq ?_
      | refine seqQ_normal ?_
      | refine J_condT rfl ?_
      | refine J_condF rfl ?_
      | refine J_block ?_
      | refine blockQ_normal ?_
      | refine J_exit ?_
      | refine seqQ_exit ?_
      | refine blockQ_hit ?_
      | refine blockQ_miss rfl ?_
      | refine J_skip ?_
      | refine J_ret ?_
      | refine seqQ_ret ?_
      | refine blockQ_ret ?_
      | refine loopQ_exit ?_
      | refine loopQ_ret ?_
      | refine J_label ?_
    repeat first
      | refine J_seq ?_
      | refine seqQ_normal ?_
      | refine J_condT rfl ?_
      | refine J_condF rfl ?_
      | refine J_block ?_
      | refine blockQ_normal ?_
      | refine J_exit ?_
      | refine seqQ_exit ?_
      | refine blockQ_hit ?_
      | refine blockQ_miss rfl ?_
      | refine J_skip ?_
      | refine J_ret ?_
      | refine seqQ_ret ?_
      | refine blockQ_ret ?_
      | refine loopQ_exit ?_
      | refine loopQ_ret ?_
      | refine J_label ?_
    refine J_region ?_
    refine L_q (Q_move rfl) rfl rfl rfl ?_
    refine L_o rfl rfl rfl (O_call [0] [1] hf rfl rfl ?_)
    rintro _ _ ⟨rfl, rfl⟩
    refine JL.norm ?_
    first
      | refine L_q (Q_notD rfl) rfl rfl rfl ?_
      | refine L_q (Q_not rfl) rfl rfl rfl ?_
    refine JL_nil ?_
    repeat first
      | refine J_seq ?_
      | refine seqQ_normal ?_
      | refine J_condT rfl ?_
      | refine J_condF rfl ?_
      | refine J_block ?_
      | refine blockQ_normal ?_
      | refine J_exit ?_
      | refine seqQ_exit ?_
      | refine blockQ_hit ?_
      | refine blockQ_miss rfl ?_
      | refine J_skip ?_
      | refine J_ret ?_
      | refine seqQ_ret ?_
      | refine blockQ_ret ?_
      | refine loopQ_exit ?_
      | refine loopQ_ret ?_
      | refine J_label ?_
    repeat first
      | refine J_seq ?_
      | refine seqQ_normal ?_
      | refine J_condT rfl ?_
      | refine J_condF rfl ?_
      | refine J_block ?_
      | refine blockQ_normal ?_
      | refine J_exit ?_
      | refine seqQ_exit ?_
      | refine blockQ_hit ?_
      | refine blockQ_miss rfl ?_
      | refine J_skip ?_
      | refine J_ret ?_
      | refine seqQ_ret ?_
      | refine blockQ_ret ?_
      | refine loopQ_exit ?_
      | refine loopQ_ret ?_
      | refine J_label ?_
    refine J_region ?_
    refine L_o rfl rfl rfl (O_call [] [0,1] (awake_ok E) rfl rfl ?_)
    rintro _ _ ⟨rfl, rfl⟩
    refine JL.norm ?_
    refine L_q (Q_assign rfl) rfl rfl rfl ?_
    refine JL_nil ?_
    repeat first
      | refine J_seq ?_
      | refine seqQ_normal ?_
      | refine J_condT rfl ?_
      | refine J_condF rfl ?_
      | refine J_block ?_
      | refine blockQ_normal ?_
      | refine J_exit ?_
      | refine seqQ_exit ?_
      | refine blockQ_hit ?_
      | refine blockQ_miss rfl ?_
      | refine J_skip ?_
      | refine J_ret ?_
      | refine seqQ_ret ?_
      | refine blockQ_ret ?_
      | refine loopQ_exit ?_
      | refine loopQ_ret ?_
      | refine J_label ?_
    exact retQ_ret _ [] (.cons (RV_tmp rfl) .nil) ⟨rfl, rfl⟩ (Ent.re [1] rfl)
  | true =>
    rw [hb] at hf
    have hl40 := (few_text hb).1
    repeat first
      | refine J_seq ?_
      | refine seqQ_normal ?_
      | refine J_condT rfl ?_
      | refine J_condF rfl ?_
      | refine J_block ?_
      | refine blockQ_normal ?_
      | refine J_exit ?_
      | refine seqQ_exit ?_
      | refine blockQ_hit ?_
      | refine blockQ_miss rfl ?_
      | refine J_skip ?_
      | refine J_ret ?_
      | refine seqQ_ret ?_
      | refine blockQ_ret ?_
      | refine loopQ_exit ?_
      | refine loopQ_ret ?_
      | refine J_label ?_
    refine J_region ?_
    refine L_q (Q_assign rfl) rfl rfl rfl ?_
    refine JL_nil ?_
    repeat first
      | refine J_seq ?_
      | refine seqQ_normal ?_
      | refine J_condT rfl ?_
      | refine J_condF rfl ?_
      | refine J_block ?_
      | refine blockQ_normal ?_
      | refine J_exit ?_
      | refine seqQ_exit ?_
      | refine blockQ_hit ?_
      | refine blockQ_miss rfl ?_
      | refine J_skip ?_
      | refine J_ret ?_
      | refine seqQ_ret ?_
      | refine blockQ_ret ?_
      | refine loopQ_exit ?_
      | refine loopQ_ret ?_
      | refine J_label ?_
    repeat first
      | refine J_seq ?_
      | refine seqQ_normal ?_
      | refine J_condT rfl ?_
      | refine J_condF rfl ?_
      | refine J_block ?_
      | refine blockQ_normal ?_
      | refine J_exit ?_
      | refine seqQ_exit ?_
      | refine blockQ_hit ?_
      | refine blockQ_miss rfl ?_
      | refine J_skip ?_
      | refine J_ret ?_
      | refine seqQ_ret ?_
      | refine blockQ_ret ?_
      | refine loopQ_exit ?_
      | refine loopQ_ret ?_
      | refine J_label ?_
    refine J_region ?_
    refine L_q (Q_move rfl) rfl rfl rfl ?_
    refine L_o rfl rfl rfl (O_call [0] [1] hf rfl rfl ?_)
    rintro _ _ ⟨rfl, rfl⟩
    refine JL.norm ?_
    first
      | refine L_q (Q_notD rfl) rfl rfl rfl ?_
      | refine L_q (Q_not rfl) rfl rfl rfl ?_
    refine JL_nil ?_
    repeat first
      | refine J_seq ?_
      | refine seqQ_normal ?_
      | refine J_condT rfl ?_
      | refine J_condF rfl ?_
      | refine J_block ?_
      | refine blockQ_normal ?_
      | refine J_exit ?_
      | refine seqQ_exit ?_
      | refine blockQ_hit ?_
      | refine blockQ_miss rfl ?_
      | refine J_skip ?_
      | refine J_ret ?_
      | refine seqQ_ret ?_
      | refine blockQ_ret ?_
      | refine loopQ_exit ?_
      | refine loopQ_ret ?_
      | refine J_label ?_
    repeat first
      | refine J_seq ?_
      | refine seqQ_normal ?_
      | refine J_condT rfl ?_
      | refine J_condF rfl ?_
      | refine J_block ?_
      | refine blockQ_normal ?_
      | refine J_exit ?_
      | refine seqQ_exit ?_
      | refine blockQ_hit ?_
      | refine blockQ_miss rfl ?_
      | refine J_skip ?_
      | refine J_ret ?_
      | refine seqQ_ret ?_
      | refine blockQ_ret ?_
      | refine loopQ_exit ?_
      | refine loopQ_ret ?_
      | refine J_label ?_
    refine J_region ?_
    refine L_o rfl rfl rfl (O_call [] [0,1] (snew_ok E) rfl rfl ?_)
    rintro _ _ ⟨p, rfl, rfl⟩
    refine JL.norm ?_
    refine L_q (Q_build rfl) rfl rfl rfl ?_
    refine L_o rfl rfl rfl (O_alloc fun b4 => ?_)
    refine L_q (Q_assign rfl) rfl rfl rfl ?_
    first
      | refine L_s rfl rfl (O_stW 0 rfl rfl rfl rfl ?_)
      | refine L_s rfl rfl (O_stW 1 rfl rfl rfl rfl ?_)
      | refine L_s rfl rfl (O_stW 2 rfl rfl rfl rfl ?_)
      | refine L_s rfl rfl (O_stW 3 rfl rfl rfl rfl ?_)
      | refine L_s rfl rfl (O_stW 4 rfl rfl rfl rfl ?_)
      | refine L_s rfl rfl (O_stW 5 rfl rfl rfl rfl ?_)
      | refine L_s rfl rfl (O_stW 6 rfl rfl rfl rfl ?_)
      | refine L_s rfl rfl (O_stW 7 rfl rfl rfl rfl ?_)
      | refine L_s rfl rfl (O_stW 8 rfl rfl rfl rfl ?_)
      | refine L_s rfl rfl (O_stW 9 rfl rfl rfl rfl ?_)
    refine JL.norm ?_
    refine JL_nil ?_
    repeat first
      | refine J_seq ?_
      | refine seqQ_normal ?_
      | refine J_condT rfl ?_
      | refine J_condF rfl ?_
      | refine J_block ?_
      | refine blockQ_normal ?_
      | refine J_exit ?_
      | refine seqQ_exit ?_
      | refine blockQ_hit ?_
      | refine blockQ_miss rfl ?_
      | refine J_skip ?_
      | refine J_ret ?_
      | refine seqQ_ret ?_
      | refine blockQ_ret ?_
      | refine loopQ_exit ?_
      | refine loopQ_ret ?_
      | refine J_label ?_
    repeat first
      | refine J_seq ?_
      | refine seqQ_normal ?_
      | refine J_condT rfl ?_
      | refine J_condF rfl ?_
      | refine J_block ?_
      | refine blockQ_normal ?_
      | refine J_exit ?_
      | refine seqQ_exit ?_
      | refine blockQ_hit ?_
      | refine blockQ_miss rfl ?_
      | refine J_skip ?_
      | refine J_ret ?_
      | refine seqQ_ret ?_
      | refine blockQ_ret ?_
      | refine loopQ_exit ?_
      | refine loopQ_ret ?_
      | refine J_label ?_
    refine J_region ?_
    refine L_q (Q_assign rfl) rfl rfl rfl ?_
    refine JL_nil ?_
    repeat first
      | refine J_seq ?_
      | refine seqQ_normal ?_
      | refine J_condT rfl ?_
      | refine J_condF rfl ?_
      | refine J_block ?_
      | refine blockQ_normal ?_
      | refine J_exit ?_
      | refine seqQ_exit ?_
      | refine blockQ_hit ?_
      | refine blockQ_miss rfl ?_
      | refine J_skip ?_
      | refine J_ret ?_
      | refine seqQ_ret ?_
      | refine blockQ_ret ?_
      | refine loopQ_exit ?_
      | refine loopQ_ret ?_
      | refine J_label ?_
    refine J_loop (fun i : Nat × List UInt8 × List UInt8 × SV × SV => i.1 ≤ l.length ∧ i.2.1.length ≤ 40000 ∧ i.2.2.1.length ≤ 40000)
      (fun i => [(0, S.v), (3, .pointer (some ⟨p, 0, none⟩)), (4, .pointer (some ⟨b4, 0, none⟩)), (5, .int .i64 (i.1 : Int))])
      (fun i => [cel b4 [str i.2.1, str i.2.2.1] 45, cel p [i.2.2.2.1.v, i.2.2.2.2.v] 59, slc tB true i.2.2.2.1 i.2.1, slc tB true i.2.2.2.2 i.2.2.1, slc tDe false S l, F]) (fun i => l.length - i.1) (0, [], [], SV.nil, SV.nil) ⟨by simp, by simp, by simp⟩ ⟨rfl, rfl, rfl, rfl, trivial⟩ (Ent.refl _) ?_
    rintro ⟨k, a, b, A, B⟩ ⟨hk, hla, hlb⟩
    dsimp only at hk hla hlb ⊢
    repeat first
      | refine J_seq ?_
      | refine seqQ_normal ?_
      | refine J_condT rfl ?_
      | refine J_condF rfl ?_
      | refine J_block ?_
      | refine blockQ_normal ?_
      | refine J_exit ?_
      | refine seqQ_exit ?_
      | refine blockQ_hit ?_
      | refine blockQ_miss rfl ?_
      | refine J_skip ?_
      | refine J_ret ?_
      | refine seqQ_ret ?_
      | refine blockQ_ret ?_
      | refine loopQ_exit ?_
      | refine loopQ_ret ?_
      | refine J_label ?_
    refine J_region ?_
    refine L_q (Q_move rfl) rfl rfl rfl ?_
    refine L_q (Q_move rfl) rfl rfl rfl ?_
    first
      | refine L_q (Q_lenAt 0 rfl rfl) rfl rfl rfl ?_
      | refine L_q (Q_lenAt 1 rfl rfl) rfl rfl rfl ?_
      | refine L_q (Q_lenAt 2 rfl rfl) rfl rfl rfl ?_
      | refine L_q (Q_lenAt 3 rfl rfl) rfl rfl rfl ?_
      | refine L_q (Q_lenAt 4 rfl rfl) rfl rfl rfl ?_
      | refine L_q (Q_lenAt 5 rfl rfl) rfl rfl rfl ?_
      | refine L_q (Q_lenAt 6 rfl rfl) rfl rfl rfl ?_
      | refine L_q (Q_lenAt 7 rfl rfl) rfl rfl rfl ?_
      | refine L_q (Q_lenAt 8 rfl rfl) rfl rfl rfl ?_
      | refine L_q (Q_lenAt 9 rfl rfl) rfl rfl rfl ?_
    refine L_q (Q_lss rfl rfl) rfl rfl rfl ?_
    refine JL_nil ?_
    repeat first
      | refine J_seq ?_
      | refine seqQ_normal ?_
      | refine J_condT rfl ?_
      | refine J_condF rfl ?_
      | refine J_block ?_
      | refine blockQ_normal ?_
      | refine J_exit ?_
      | refine seqQ_exit ?_
      | refine blockQ_hit ?_
      | refine blockQ_miss rfl ?_
      | refine J_skip ?_
      | refine J_ret ?_
      | refine seqQ_ret ?_
      | refine blockQ_ret ?_
      | refine loopQ_exit ?_
      | refine loopQ_ret ?_
      | refine J_label ?_
    refine J_condD rfl (fun h => ?_) (fun h => ?_)
    · have hlt : k < l.length := by omega
      repeat first
        | refine J_seq ?_
        | refine seqQ_normal ?_
        | refine J_condT rfl ?_
        | refine J_condF rfl ?_
        | refine J_block ?_
        | refine blockQ_normal ?_
        | refine J_exit ?_
        | refine seqQ_exit ?_
        | refine blockQ_hit ?_
        | refine blockQ_miss rfl ?_
        | refine J_skip ?_
        | refine J_ret ?_
        | refine seqQ_ret ?_
        | refine blockQ_ret ?_
        | refine loopQ_exit ?_
        | refine loopQ_ret ?_
        | refine J_label ?_
      refine J_region ?_
      refine L_q (Q_move rfl) rfl rfl rfl ?_
      refine L_q (Q_move rfl) rfl rfl rfl ?_
      refine L_q (Q_ixAt 4 k rfl rfl rfl rfl hlt rfl) rfl rfl rfl ?_
      refine L_q (Q_ldEAAt 4 k 0 (vs := [.int .i64 l[k].slot, .int .i64 l[k].n, .int .i64 l[k].by', str l[k].body]) rfl rfl rfl rfl hlt (by decide) rfl) rfl rfl rfl ?_
      refine L_o rfl rfl rfl (O_alloc fun b6 => ?_)
      first
        | refine L_s rfl rfl (O_stW 0 rfl rfl rfl rfl ?_)
        | refine L_s rfl rfl (O_stW 1 rfl rfl rfl rfl ?_)
        | refine L_s rfl rfl (O_stW 2 rfl rfl rfl rfl ?_)
        | refine L_s rfl rfl (O_stW 3 rfl rfl rfl rfl ?_)
        | refine L_s rfl rfl (O_stW 4 rfl rfl rfl rfl ?_)
        | refine L_s rfl rfl (O_stW 5 rfl rfl rfl rfl ?_)
        | refine L_s rfl rfl (O_stW 6 rfl rfl rfl rfl ?_)
        | refine L_s rfl rfl (O_stW 7 rfl rfl rfl rfl ?_)
        | refine L_s rfl rfl (O_stW 8 rfl rfl rfl rfl ?_)
        | refine L_s rfl rfl (O_stW 9 rfl rfl rfl rfl ?_)
      refine JL.norm ?_
      refine JL_nil ?_
      repeat first
        | refine J_seq ?_
        | refine seqQ_normal ?_
        | refine J_condT rfl ?_
        | refine J_condF rfl ?_
        | refine J_block ?_
        | refine blockQ_normal ?_
        | refine J_exit ?_
        | refine seqQ_exit ?_
        | refine blockQ_hit ?_
        | refine blockQ_miss rfl ?_
        | refine J_skip ?_
        | refine J_ret ?_
        | refine seqQ_ret ?_
        | refine blockQ_ret ?_
        | refine loopQ_exit ?_
        | refine loopQ_ret ?_
        | refine J_label ?_
      by_cases hs0 : l[k].slot = 0
      · repeat first
          | refine J_seq ?_
          | refine seqQ_normal ?_
          | refine J_condT rfl ?_
          | refine J_condF rfl ?_
          | refine J_block ?_
          | refine blockQ_normal ?_
          | refine J_exit ?_
          | refine seqQ_exit ?_
          | refine blockQ_hit ?_
          | refine blockQ_miss rfl ?_
          | refine J_skip ?_
          | refine J_ret ?_
          | refine seqQ_ret ?_
          | refine blockQ_ret ?_
          | refine loopQ_exit ?_
          | refine loopQ_ret ?_
          | refine J_label ?_
        refine J_region ?_
        first
          | refine L_q (Q_fa0 rfl) rfl rfl rfl ?_
          | refine L_q (Q_fa rfl rfl) rfl rfl rfl ?_
          | refine L_q (Q_pfa rfl) rfl rfl rfl ?_
        first
          | refine L_q (Q_ld 0 rfl rfl rfl rfl) rfl rfl rfl ?_
          | refine L_q (Q_ld 1 rfl rfl rfl rfl) rfl rfl rfl ?_
          | refine L_q (Q_ld 2 rfl rfl rfl rfl) rfl rfl rfl ?_
          | refine L_q (Q_ld 3 rfl rfl rfl rfl) rfl rfl rfl ?_
          | refine L_q (Q_ld 4 rfl rfl rfl rfl) rfl rfl rfl ?_
          | refine L_q (Q_ld 5 rfl rfl rfl rfl) rfl rfl rfl ?_
          | refine L_q (Q_ld 6 rfl rfl rfl rfl) rfl rfl rfl ?_
          | refine L_q (Q_ld 7 rfl rfl rfl rfl) rfl rfl rfl ?_
          | refine L_q (Q_ld 8 rfl rfl rfl rfl) rfl rfl rfl ?_
          | refine L_q (Q_ld 9 rfl rfl rfl rfl) rfl rfl rfl ?_
        refine L_q ((Q_eql rfl rfl).as (v' := .bool true) (congrArg Value.bool (decide_eq_true hs0))) rfl rfl rfl ?_
        refine L_q (Q_move rfl) rfl rfl rfl ?_
        refine L_n rfl rfl rfl ?_
        refine L_n rfl rfl rfl ?_
        refine L_n rfl rfl rfl ?_
        first
          | refine L_q (Q_pickT rfl rfl) rfl rfl rfl ?_
          | refine L_q (Q_pickF rfl rfl) rfl rfl rfl ?_
          | refine L_q (Q_pickB rfl rfl rfl) rfl rfl rfl ?_
        refine JL_nil ?_
        repeat first
          | refine J_seq ?_
          | refine seqQ_normal ?_
          | refine J_condT rfl ?_
          | refine J_condF rfl ?_
          | refine J_block ?_
          | refine blockQ_normal ?_
          | refine J_exit ?_
          | refine seqQ_exit ?_
          | refine blockQ_hit ?_
          | refine blockQ_miss rfl ?_
          | refine J_skip ?_
          | refine J_ret ?_
          | refine seqQ_ret ?_
          | refine blockQ_ret ?_
          | refine loopQ_exit ?_
          | refine loopQ_ret ?_
          | refine J_label ?_
        have rs := rspoil_ok E a b l[k].slot l[k].n l[k].by' (by omega) (by omega)
        have ps := spoil_ok E p A B a b l[k].slot l[k].n l[k].by'
        obtain ⟨n1, n2⟩ := doSpoil_len a b l[k].slot l[k].n l[k].by'
        generalize (doSpoil a b l[k].slot l[k].n l[k].by').1 = a2 at *
        generalize (doSpoil a b l[k].slot l[k].n l[k].by').2.1 = b2 at *
        generalize (doSpoil a b l[k].slot l[k].n l[k].by').2.2 = ok at *
        have ld := load_ok E p A B a2 b2 (by omega) (by omega)
        have rl := rload_ok E a2 b2 (by omega) (by omega)
        repeat first
          | refine J_seq ?_
          | refine seqQ_normal ?_
          | refine J_condT rfl ?_
          | refine J_condF rfl ?_
          | refine J_block ?_
          | refine blockQ_normal ?_
          | refine J_exit ?_
          | refine seqQ_exit ?_
          | refine blockQ_hit ?_
          | refine blockQ_miss rfl ?_
          | refine J_skip ?_
          | refine J_ret ?_
          | refine seqQ_ret ?_
          | refine blockQ_ret ?_
          | refine loopQ_exit ?_
          | refine loopQ_ret ?_
          | refine J_label ?_
        refine J_region ?_
        first
          | refine L_q (Q_ldA 0 rfl rfl rfl) rfl rfl rfl ?_
          | refine L_q (Q_ldA 1 rfl rfl rfl) rfl rfl rfl ?_
          | refine L_q (Q_ldA 2 rfl rfl rfl) rfl rfl rfl ?_
          | refine L_q (Q_ldA 3 rfl rfl rfl) rfl rfl rfl ?_
          | refine L_q (Q_ldA 4 rfl rfl rfl) rfl rfl rfl ?_
          | refine L_q (Q_ldA 5 rfl rfl rfl) rfl rfl rfl ?_
          | refine L_q (Q_ldA 6 rfl rfl rfl) rfl rfl rfl ?_
          | refine L_q (Q_ldA 7 rfl rfl rfl) rfl rfl rfl ?_
          | refine L_q (Q_ldA 8 rfl rfl rfl) rfl rfl rfl ?_
          | refine L_q (Q_ldA 9 rfl rfl rfl) rfl rfl rfl ?_
        first
          | refine L_q (Q_fa0 rfl) rfl rfl rfl ?_
          | refine L_q (Q_fa rfl rfl) rfl rfl rfl ?_
          | refine L_q (Q_pfa rfl) rfl rfl rfl ?_
        first
          | refine L_q (Q_ld 0 rfl rfl rfl rfl) rfl rfl rfl ?_
          | refine L_q (Q_ld 1 rfl rfl rfl rfl) rfl rfl rfl ?_
          | refine L_q (Q_ld 2 rfl rfl rfl rfl) rfl rfl rfl ?_
          | refine L_q (Q_ld 3 rfl rfl rfl rfl) rfl rfl rfl ?_
          | refine L_q (Q_ld 4 rfl rfl rfl rfl) rfl rfl rfl ?_
          | refine L_q (Q_ld 5 rfl rfl rfl rfl) rfl rfl rfl ?_
          | refine L_q (Q_ld 6 rfl rfl rfl rfl) rfl rfl rfl ?_
          | refine L_q (Q_ld 7 rfl rfl rfl rfl) rfl rfl rfl ?_
          | refine L_q (Q_ld 8 rfl rfl rfl rfl) rfl rfl rfl ?_
          | refine L_q (Q_ld 9 rfl rfl rfl rfl) rfl rfl rfl ?_
        first
          | refine L_q (Q_fa0 rfl) rfl rfl rfl ?_
          | refine L_q (Q_fa rfl rfl) rfl rfl rfl ?_
          | refine L_q (Q_pfa rfl) rfl rfl rfl ?_
        first
          | refine L_q (Q_ld 0 rfl rfl rfl rfl) rfl rfl rfl ?_
          | refine L_q (Q_ld 1 rfl rfl rfl rfl) rfl rfl rfl ?_
          | refine L_q (Q_ld 2 rfl rfl rfl rfl) rfl rfl rfl ?_
          | refine L_q (Q_ld 3 rfl rfl rfl rfl) rfl rfl rfl ?_
          | refine L_q (Q_ld 4 rfl rfl rfl rfl) rfl rfl rfl ?_
          | refine L_q (Q_ld 5 rfl rfl rfl rfl) rfl rfl rfl ?_
          | refine L_q (Q_ld 6 rfl rfl rfl rfl) rfl rfl rfl ?_
          | refine L_q (Q_ld 7 rfl rfl rfl rfl) rfl rfl rfl ?_
          | refine L_q (Q_ld 8 rfl rfl rfl rfl) rfl rfl rfl ?_
          | refine L_q (Q_ld 9 rfl rfl rfl rfl) rfl rfl rfl ?_
        first
          | refine L_q (Q_fa0 rfl) rfl rfl rfl ?_
          | refine L_q (Q_fa rfl rfl) rfl rfl rfl ?_
          | refine L_q (Q_pfa rfl) rfl rfl rfl ?_
        first
          | refine L_q (Q_ld 0 rfl rfl rfl rfl) rfl rfl rfl ?_
          | refine L_q (Q_ld 1 rfl rfl rfl rfl) rfl rfl rfl ?_
          | refine L_q (Q_ld 2 rfl rfl rfl rfl) rfl rfl rfl ?_
          | refine L_q (Q_ld 3 rfl rfl rfl rfl) rfl rfl rfl ?_
          | refine L_q (Q_ld 4 rfl rfl rfl rfl) rfl rfl rfl ?_
          | refine L_q (Q_ld 5 rfl rfl rfl rfl) rfl rfl rfl ?_
          | refine L_q (Q_ld 6 rfl rfl rfl rfl) rfl rfl rfl ?_
          | refine L_q (Q_ld 7 rfl rfl rfl rfl) rfl rfl rfl ?_
          | refine L_q (Q_ld 8 rfl rfl rfl rfl) rfl rfl rfl ?_
          | refine L_q (Q_ld 9 rfl rfl rfl rfl) rfl rfl rfl ?_
        refine L_o rfl rfl rfl (O_call [] [0,1,2,3,4,5,6] rs rfl rfl ?_)
        rintro _ _ ⟨rfl, rfl⟩
        refine JL.norm ?_
        refine L_q (Q_move rfl) rfl rfl rfl ?_
        refine L_q (Q_extract (v := .agg #[str a2, str b2]) rfl rfl) rfl rfl rfl ?_
        refine L_q (Q_extract (v := .bool ok) rfl rfl) rfl rfl rfl ?_
        refine L_o rfl rfl rfl (O_alloc fun b7 => ?_)
        first
          | refine L_s rfl rfl (O_stW 0 rfl rfl rfl rfl ?_)
          | refine L_s rfl rfl (O_stW 1 rfl rfl rfl rfl ?_)
          | refine L_s rfl rfl (O_stW 2 rfl rfl rfl rfl ?_)
          | refine L_s rfl rfl (O_stW 3 rfl rfl rfl rfl ?_)
          | refine L_s rfl rfl (O_stW 4 rfl rfl rfl rfl ?_)
          | refine L_s rfl rfl (O_stW 5 rfl rfl rfl rfl ?_)
          | refine L_s rfl rfl (O_stW 6 rfl rfl rfl rfl ?_)
          | refine L_s rfl rfl (O_stW 7 rfl rfl rfl rfl ?_)
          | refine L_s rfl rfl (O_stW 8 rfl rfl rfl rfl ?_)
          | refine L_s rfl rfl (O_stW 9 rfl rfl rfl rfl ?_)
        refine JL.norm ?_
        refine L_q (Q_assign rfl) rfl rfl rfl ?_
        refine JL_nil ?_
        repeat first
          | refine J_seq ?_
          | refine seqQ_normal ?_
          | refine J_condT rfl ?_
          | refine J_condF rfl ?_
          | refine J_block ?_
          | refine blockQ_normal ?_
          | refine J_exit ?_
          | refine seqQ_exit ?_
          | refine blockQ_hit ?_
          | refine blockQ_miss rfl ?_
          | refine J_skip ?_
          | refine J_ret ?_
          | refine seqQ_ret ?_
          | refine blockQ_ret ?_
          | refine loopQ_exit ?_
          | refine loopQ_ret ?_
          | refine J_label ?_
        repeat first
          | refine J_seq ?_
          | refine seqQ_normal ?_
          | refine J_condT rfl ?_
          | refine J_condF rfl ?_
          | refine J_block ?_
          | refine blockQ_normal ?_
          | refine J_exit ?_
          | refine seqQ_exit ?_
          | refine blockQ_hit ?_
          | refine blockQ_miss rfl ?_
          | refine J_skip ?_
          | refine J_ret ?_
          | refine seqQ_ret ?_
          | refine blockQ_ret ?_
          | refine loopQ_exit ?_
          | refine loopQ_ret ?_
          | refine J_label ?_
        refine J_region ?_
        first
          | refine L_q (Q_ldA 0 rfl rfl rfl) rfl rfl rfl ?_
          | refine L_q (Q_ldA 1 rfl rfl rfl) rfl rfl rfl ?_
          | refine L_q (Q_ldA 2 rfl rfl rfl) rfl rfl rfl ?_
          | refine L_q (Q_ldA 3 rfl rfl rfl) rfl rfl rfl ?_
          | refine L_q (Q_ldA 4 rfl rfl rfl) rfl rfl rfl ?_
          | refine L_q (Q_ldA 5 rfl rfl rfl) rfl rfl rfl ?_
          | refine L_q (Q_ldA 6 rfl rfl rfl) rfl rfl rfl ?_
          | refine L_q (Q_ldA 7 rfl rfl rfl) rfl rfl rfl ?_
          | refine L_q (Q_ldA 8 rfl rfl rfl) rfl rfl rfl ?_
          | refine L_q (Q_ldA 9 rfl rfl rfl) rfl rfl rfl ?_
        first
          | refine L_s rfl rfl (O_stW 0 rfl rfl rfl rfl ?_)
          | refine L_s rfl rfl (O_stW 1 rfl rfl rfl rfl ?_)
          | refine L_s rfl rfl (O_stW 2 rfl rfl rfl rfl ?_)
          | refine L_s rfl rfl (O_stW 3 rfl rfl rfl rfl ?_)
          | refine L_s rfl rfl (O_stW 4 rfl rfl rfl rfl ?_)
          | refine L_s rfl rfl (O_stW 5 rfl rfl rfl rfl ?_)
          | refine L_s rfl rfl (O_stW 6 rfl rfl rfl rfl ?_)
          | refine L_s rfl rfl (O_stW 7 rfl rfl rfl rfl ?_)
          | refine L_s rfl rfl (O_stW 8 rfl rfl rfl rfl ?_)
          | refine L_s rfl rfl (O_stW 9 rfl rfl rfl rfl ?_)
        refine JL.norm ?_
        refine JL_nil ?_
        repeat first
          | refine J_seq ?_
          | refine seqQ_normal ?_
          | refine J_condT rfl ?_
          | refine J_condF rfl ?_
          | refine J_block ?_
          | refine blockQ_normal ?_
          | refine J_exit ?_
          | refine seqQ_exit ?_
          | refine blockQ_hit ?_
          | refine blockQ_miss rfl ?_
          | refine J_skip ?_
          | refine J_ret ?_
          | refine seqQ_ret ?_
          | refine blockQ_ret ?_
          | refine loopQ_exit ?_
          | refine loopQ_ret ?_
          | refine J_label ?_
        repeat first
          | refine J_seq ?_
          | refine seqQ_normal ?_
          | refine J_condT rfl ?_
          | refine J_condF rfl ?_
          | refine J_block ?_
          | refine blockQ_normal ?_
          | refine J_exit ?_
          | refine seqQ_exit ?_
          | refine blockQ_hit ?_
          | refine blockQ_miss rfl ?_
          | refine J_skip ?_
          | refine J_ret ?_
          | refine seqQ_ret ?_
          | refine blockQ_ret ?_
          | refine loopQ_exit ?_
          | refine loopQ_ret ?_
          | refine J_label ?_
        refine J_region ?_
        refine L_q (Q_move rfl) rfl rfl rfl ?_
        first
          | refine L_q (Q_fa0 rfl) rfl rfl rfl ?_
          | refine L_q (Q_fa rfl rfl) rfl rfl rfl ?_
          | refine L_q (Q_pfa rfl) rfl rfl rfl ?_
        first
          | refine L_q (Q_ld 0 rfl rfl rfl rfl) rfl rfl rfl ?_
          | refine L_q (Q_ld 1 rfl rfl rfl rfl) rfl rfl rfl ?_
          | refine L_q (Q_ld 2 rfl rfl rfl rfl) rfl rfl rfl ?_
          | refine L_q (Q_ld 3 rfl rfl rfl rfl) rfl rfl rfl ?_
          | refine L_q (Q_ld 4 rfl rfl rfl rfl) rfl rfl rfl ?_
          | refine L_q (Q_ld 5 rfl rfl rfl rfl) rfl rfl rfl ?_
          | refine L_q (Q_ld 6 rfl rfl rfl rfl) rfl rfl rfl ?_
          | refine L_q (Q_ld 7 rfl rfl rfl rfl) rfl rfl rfl ?_
          | refine L_q (Q_ld 8 rfl rfl rfl rfl) rfl rfl rfl ?_
          | refine L_q (Q_ld 9 rfl rfl rfl rfl) rfl rfl rfl ?_
        first
          | refine L_q (Q_fa0 rfl) rfl rfl rfl ?_
          | refine L_q (Q_fa rfl rfl) rfl rfl rfl ?_
          | refine L_q (Q_pfa rfl) rfl rfl rfl ?_
        first
          | refine L_q (Q_ld 0 rfl rfl rfl rfl) rfl rfl rfl ?_
          | refine L_q (Q_ld 1 rfl rfl rfl rfl) rfl rfl rfl ?_
          | refine L_q (Q_ld 2 rfl rfl rfl rfl) rfl rfl rfl ?_
          | refine L_q (Q_ld 3 rfl rfl rfl rfl) rfl rfl rfl ?_
          | refine L_q (Q_ld 4 rfl rfl rfl rfl) rfl rfl rfl ?_
          | refine L_q (Q_ld 5 rfl rfl rfl rfl) rfl rfl rfl ?_
          | refine L_q (Q_ld 6 rfl rfl rfl rfl) rfl rfl rfl ?_
          | refine L_q (Q_ld 7 rfl rfl rfl rfl) rfl rfl rfl ?_
          | refine L_q (Q_ld 8 rfl rfl rfl rfl) rfl rfl rfl ?_
          | refine L_q (Q_ld 9 rfl rfl rfl rfl) rfl rfl rfl ?_
        first
          | refine L_q (Q_fa0 rfl) rfl rfl rfl ?_
          | refine L_q (Q_fa rfl rfl) rfl rfl rfl ?_
          | refine L_q (Q_pfa rfl) rfl rfl rfl ?_
        first
          | refine L_q (Q_ld 0 rfl rfl rfl rfl) rfl rfl rfl ?_
          | refine L_q (Q_ld 1 rfl rfl rfl rfl) rfl rfl rfl ?_
          | refine L_q (Q_ld 2 rfl rfl rfl rfl) rfl rfl rfl ?_
          | refine L_q (Q_ld 3 rfl rfl rfl rfl) rfl rfl rfl ?_
          | refine L_q (Q_ld 4 rfl rfl rfl rfl) rfl rfl rfl ?_
          | refine L_q (Q_ld 5 rfl rfl rfl rfl) rfl rfl rfl ?_
          | refine L_q (Q_ld 6 rfl rfl rfl rfl) rfl rfl rfl ?_
          | refine L_q (Q_ld 7 rfl rfl rfl rfl) rfl rfl rfl ?_
          | refine L_q (Q_ld 8 rfl rfl rfl rfl) rfl rfl rfl ?_
          | refine L_q (Q_ld 9 rfl rfl rfl rfl) rfl rfl rfl ?_
        refine L_o rfl rfl rfl (O_call [3,4,5] [0,1,2,6,7] ps rfl rfl ?_)
        rintro _ _ ⟨rfl, rfl⟩
        refine JL.norm ?_
        refine L_q (Q_move rfl) rfl rfl rfl ?_
        refine L_q ((Q_bneq rfl rfl).as (v' := .bool false) (congrArg Value.bool (by simp))) rfl rfl rfl ?_
        refine JL_nil ?_
        repeat first
          | refine J_seq ?_
          | refine seqQ_normal ?_
          | refine J_condT rfl ?_
          | refine J_condF rfl ?_
          | refine J_block ?_
          | refine blockQ_normal ?_
          | refine J_exit ?_
          | refine seqQ_exit ?_
          | refine blockQ_hit ?_
          | refine blockQ_miss rfl ?_
          | refine J_skip ?_
          | refine J_ret ?_
          | refine seqQ_ret ?_
          | refine blockQ_ret ?_
          | refine loopQ_exit ?_
          | refine loopQ_ret ?_
          | refine J_label ?_
        repeat first
          | refine J_seq ?_
          | refine seqQ_normal ?_
          | refine J_condT rfl ?_
          | refine J_condF rfl ?_
          | refine J_block ?_
          | refine blockQ_normal ?_
          | refine J_exit ?_
          | refine seqQ_exit ?_
          | refine blockQ_hit ?_
          | refine blockQ_miss rfl ?_
          | refine J_skip ?_
          | refine J_ret ?_
          | refine seqQ_ret ?_
          | refine blockQ_ret ?_
          | refine loopQ_exit ?_
          | refine loopQ_ret ?_
          | refine J_label ?_
        refine J_region ?_
        refine L_q (Q_move rfl) rfl rfl rfl ?_
        refine L_o rfl rfl rfl (O_call [0,1,2] [3,4,5,6,7] ld rfl rfl ?_)
        rintro _ _ ⟨rfl, rfl⟩
        refine JL.norm ?_
        refine L_q (Q_move rfl) rfl rfl rfl ?_
        refine L_q (Q_extract (v := str (loadT a2 b2)) rfl rfl) rfl rfl rfl ?_
        refine L_q (Q_extract (v := .int .i64 (loadN a2 b2 : Int)) rfl rfl) rfl rfl rfl ?_
        refine L_q (Q_assign rfl) rfl rfl rfl ?_
        refine L_q (Q_assign rfl) rfl rfl rfl ?_
        refine JL_nil ?_
        repeat first
          | refine J_seq ?_
          | refine seqQ_normal ?_
          | refine J_condT rfl ?_
          | refine J_condF rfl ?_
          | refine J_block ?_
          | refine blockQ_normal ?_
          | refine J_exit ?_
          | refine seqQ_exit ?_
          | refine blockQ_hit ?_
          | refine blockQ_miss rfl ?_
          | refine J_skip ?_
          | refine J_ret ?_
          | refine seqQ_ret ?_
          | refine blockQ_ret ?_
          | refine loopQ_exit ?_
          | refine loopQ_ret ?_
          | refine J_label ?_
        repeat first
          | refine J_seq ?_
          | refine seqQ_normal ?_
          | refine J_condT rfl ?_
          | refine J_condF rfl ?_
          | refine J_block ?_
          | refine blockQ_normal ?_
          | refine J_exit ?_
          | refine seqQ_exit ?_
          | refine blockQ_hit ?_
          | refine blockQ_miss rfl ?_
          | refine J_skip ?_
          | refine J_ret ?_
          | refine seqQ_ret ?_
          | refine blockQ_ret ?_
          | refine loopQ_exit ?_
          | refine loopQ_ret ?_
          | refine J_label ?_
        refine J_region ?_
        first
          | refine L_q (Q_ldA 0 rfl rfl rfl) rfl rfl rfl ?_
          | refine L_q (Q_ldA 1 rfl rfl rfl) rfl rfl rfl ?_
          | refine L_q (Q_ldA 2 rfl rfl rfl) rfl rfl rfl ?_
          | refine L_q (Q_ldA 3 rfl rfl rfl) rfl rfl rfl ?_
          | refine L_q (Q_ldA 4 rfl rfl rfl) rfl rfl rfl ?_
          | refine L_q (Q_ldA 5 rfl rfl rfl) rfl rfl rfl ?_
          | refine L_q (Q_ldA 6 rfl rfl rfl) rfl rfl rfl ?_
          | refine L_q (Q_ldA 7 rfl rfl rfl) rfl rfl rfl ?_
          | refine L_q (Q_ldA 8 rfl rfl rfl) rfl rfl rfl ?_
          | refine L_q (Q_ldA 9 rfl rfl rfl) rfl rfl rfl ?_
        refine L_o rfl rfl rfl (O_call [] [0,1,2,3,4,5,6,7] rl rfl rfl ?_)
        rintro _ _ ⟨rfl, rfl⟩
        refine JL.norm ?_
        refine L_q (Q_move rfl) rfl rfl rfl ?_
        refine L_q (Q_extract (v := str (loadT a2 b2)) rfl rfl) rfl rfl rfl ?_
        refine L_q (Q_extract (v := .int .i64 (loadN a2 b2 : Int)) rfl rfl) rfl rfl rfl ?_
        refine L_q (Q_assign rfl) rfl rfl rfl ?_
        refine L_q (Q_assign rfl) rfl rfl rfl ?_
        refine JL_nil ?_
        repeat first
          | refine J_seq ?_
          | refine seqQ_normal ?_
          | refine J_condT rfl ?_
          | refine J_condF rfl ?_
          | refine J_block ?_
          | refine blockQ_normal ?_
          | refine J_exit ?_
          | refine seqQ_exit ?_
          | refine blockQ_hit ?_
          | refine blockQ_miss rfl ?_
          | refine J_skip ?_
          | refine J_ret ?_
          | refine seqQ_ret ?_
          | refine blockQ_ret ?_
          | refine loopQ_exit ?_
          | refine loopQ_ret ?_
          | refine J_label ?_
        repeat first
          | refine J_seq ?_
          | refine seqQ_normal ?_
          | refine J_condT rfl ?_
          | refine J_condF rfl ?_
          | refine J_block ?_
          | refine blockQ_normal ?_
          | refine J_exit ?_
          | refine seqQ_exit ?_
          | refine blockQ_hit ?_
          | refine blockQ_miss rfl ?_
          | refine J_skip ?_
          | refine J_ret ?_
          | refine seqQ_ret ?_
          | refine blockQ_ret ?_
          | refine loopQ_exit ?_
          | refine loopQ_ret ?_
          | refine J_label ?_
        refine J_region ?_
        refine L_q (Q_move rfl) rfl rfl rfl ?_
        refine L_q (Q_move rfl) rfl rfl rfl ?_
        refine L_q ((Q_sneq rfl rfl).as (v' := .bool false) (congrArg Value.bool (decide_eq_false (by simp)))) rfl rfl rfl ?_
        refine L_q (Q_move rfl) rfl rfl rfl ?_
        refine L_q (Q_move rfl) rfl rfl rfl ?_
        refine L_q (Q_move rfl) rfl rfl rfl ?_
        refine L_q ((Q_neq rfl rfl).as (v' := .bool false) (congrArg Value.bool (decide_eq_false (by simp)))) rfl rfl rfl ?_
        first
          | refine L_q (Q_pickT rfl rfl) rfl rfl rfl ?_
          | refine L_q (Q_pickF rfl rfl) rfl rfl rfl ?_
          | refine L_q (Q_pickB rfl rfl rfl) rfl rfl rfl ?_
        refine JL_nil ?_
        repeat first
          | refine J_seq ?_
          | refine seqQ_normal ?_
          | refine J_condT rfl ?_
          | refine J_condF rfl ?_
          | refine J_block ?_
          | refine blockQ_normal ?_
          | refine J_exit ?_
          | refine seqQ_exit ?_
          | refine blockQ_hit ?_
          | refine blockQ_miss rfl ?_
          | refine J_skip ?_
          | refine J_ret ?_
          | refine seqQ_ret ?_
          | refine blockQ_ret ?_
          | refine loopQ_exit ?_
          | refine loopQ_ret ?_
          | refine J_label ?_
        repeat first
          | refine J_seq ?_
          | refine seqQ_normal ?_
          | refine J_condT rfl ?_
          | refine J_condF rfl ?_
          | refine J_block ?_
          | refine blockQ_normal ?_
          | refine J_exit ?_
          | refine seqQ_exit ?_
          | refine blockQ_hit ?_
          | refine blockQ_miss rfl ?_
          | refine J_skip ?_
          | refine J_ret ?_
          | refine seqQ_ret ?_
          | refine blockQ_ret ?_
          | refine loopQ_exit ?_
          | refine loopQ_ret ?_
          | refine J_label ?_
        refine J_region ?_
        refine L_q (Q_move rfl) rfl rfl rfl ?_
        refine L_q (Q_add rfl rfl (by first | exact IntWalk.i64_in _ (by omega) | exact IntWalk.u8_in _ (by omega) | exact IntWalk.u32_in _ (by omega) | exact IntWalk.u64_in _ (by omega) | rfl)) rfl rfl rfl ?_
        refine L_q (Q_assign rfl) rfl rfl rfl ?_
        refine JL_nil ?_
        repeat first
          | refine J_seq ?_
          | refine seqQ_normal ?_
          | refine J_condT rfl ?_
          | refine J_condF rfl ?_
          | refine J_block ?_
          | refine blockQ_normal ?_
          | refine J_exit ?_
          | refine seqQ_exit ?_
          | refine blockQ_hit ?_
          | refine blockQ_miss rfl ?_
          | refine J_skip ?_
          | refine J_ret ?_
          | refine seqQ_ret ?_
          | refine blockQ_ret ?_
          | refine loopQ_exit ?_
          | refine loopQ_ret ?_
          | refine J_label ?_
        exact loopQ_normal (k + 1, a2, b2, A, B) ⟨hlt, by simp only; omega, by simp only; omega⟩ (by simp only; omega) ⟨rfl, rfl, rfl, rfl, trivial⟩ (Ent.re [5, 0, 1, 2, 6, 7] rfl)
      by_cases hs1 : l[k].slot = 1
      · repeat first
          | refine J_seq ?_
          | refine seqQ_normal ?_
          | refine J_condT rfl ?_
          | refine J_condF rfl ?_
          | refine J_block ?_
          | refine blockQ_normal ?_
          | refine J_exit ?_
          | refine seqQ_exit ?_
          | refine blockQ_hit ?_
          | refine blockQ_miss rfl ?_
          | refine J_skip ?_
          | refine J_ret ?_
          | refine seqQ_ret ?_
          | refine blockQ_ret ?_
          | refine loopQ_exit ?_
          | refine loopQ_ret ?_
          | refine J_label ?_
        refine J_region ?_
        first
          | refine L_q (Q_fa0 rfl) rfl rfl rfl ?_
          | refine L_q (Q_fa rfl rfl) rfl rfl rfl ?_
          | refine L_q (Q_pfa rfl) rfl rfl rfl ?_
        first
          | refine L_q (Q_ld 0 rfl rfl rfl rfl) rfl rfl rfl ?_
          | refine L_q (Q_ld 1 rfl rfl rfl rfl) rfl rfl rfl ?_
          | refine L_q (Q_ld 2 rfl rfl rfl rfl) rfl rfl rfl ?_
          | refine L_q (Q_ld 3 rfl rfl rfl rfl) rfl rfl rfl ?_
          | refine L_q (Q_ld 4 rfl rfl rfl rfl) rfl rfl rfl ?_
          | refine L_q (Q_ld 5 rfl rfl rfl rfl) rfl rfl rfl ?_
          | refine L_q (Q_ld 6 rfl rfl rfl rfl) rfl rfl rfl ?_
          | refine L_q (Q_ld 7 rfl rfl rfl rfl) rfl rfl rfl ?_
          | refine L_q (Q_ld 8 rfl rfl rfl rfl) rfl rfl rfl ?_
          | refine L_q (Q_ld 9 rfl rfl rfl rfl) rfl rfl rfl ?_
        refine L_q ((Q_eql rfl rfl).as (v' := .bool false) (congrArg Value.bool (decide_eq_false hs0))) rfl rfl rfl ?_
        refine L_q (Q_move rfl) rfl rfl rfl ?_
        first
          | refine L_q (Q_fa0 rfl) rfl rfl rfl ?_
          | refine L_q (Q_fa rfl rfl) rfl rfl rfl ?_
          | refine L_q (Q_pfa rfl) rfl rfl rfl ?_
        first
          | refine L_q (Q_ld 0 rfl rfl rfl rfl) rfl rfl rfl ?_
          | refine L_q (Q_ld 1 rfl rfl rfl rfl) rfl rfl rfl ?_
          | refine L_q (Q_ld 2 rfl rfl rfl rfl) rfl rfl rfl ?_
          | refine L_q (Q_ld 3 rfl rfl rfl rfl) rfl rfl rfl ?_
          | refine L_q (Q_ld 4 rfl rfl rfl rfl) rfl rfl rfl ?_
          | refine L_q (Q_ld 5 rfl rfl rfl rfl) rfl rfl rfl ?_
          | refine L_q (Q_ld 6 rfl rfl rfl rfl) rfl rfl rfl ?_
          | refine L_q (Q_ld 7 rfl rfl rfl rfl) rfl rfl rfl ?_
          | refine L_q (Q_ld 8 rfl rfl rfl rfl) rfl rfl rfl ?_
          | refine L_q (Q_ld 9 rfl rfl rfl rfl) rfl rfl rfl ?_
        refine L_q ((Q_eql rfl rfl).as (v' := .bool true) (congrArg Value.bool (decide_eq_true hs1))) rfl rfl rfl ?_
        first
          | refine L_q (Q_pickT rfl rfl) rfl rfl rfl ?_
          | refine L_q (Q_pickF rfl rfl) rfl rfl rfl ?_
          | refine L_q (Q_pickB rfl rfl rfl) rfl rfl rfl ?_
        refine JL_nil ?_
        repeat first
          | refine J_seq ?_
          | refine seqQ_normal ?_
          | refine J_condT rfl ?_
          | refine J_condF rfl ?_
          | refine J_block ?_
          | refine blockQ_normal ?_
          | refine J_exit ?_
          | refine seqQ_exit ?_
          | refine blockQ_hit ?_
          | refine blockQ_miss rfl ?_
          | refine J_skip ?_
          | refine J_ret ?_
          | refine seqQ_ret ?_
          | refine blockQ_ret ?_
          | refine loopQ_exit ?_
          | refine loopQ_ret ?_
          | refine J_label ?_
        have rs := rspoil_ok E a b l[k].slot l[k].n l[k].by' (by omega) (by omega)
        have ps := spoil_ok E p A B a b l[k].slot l[k].n l[k].by'
        obtain ⟨n1, n2⟩ := doSpoil_len a b l[k].slot l[k].n l[k].by'
        generalize (doSpoil a b l[k].slot l[k].n l[k].by').1 = a2 at *
        generalize (doSpoil a b l[k].slot l[k].n l[k].by').2.1 = b2 at *
        generalize (doSpoil a b l[k].slot l[k].n l[k].by').2.2 = ok at *
        have ld := load_ok E p A B a2 b2 (by omega) (by omega)
        have rl := rload_ok E a2 b2 (by omega) (by omega)
        repeat first
          | refine J_seq ?_
          | refine seqQ_normal ?_
          | refine J_condT rfl ?_
          | refine J_condF rfl ?_
          | refine J_block ?_
          | refine blockQ_normal ?_
          | refine J_exit ?_
          | refine seqQ_exit ?_
          | refine blockQ_hit ?_
          | refine blockQ_miss rfl ?_
          | refine J_skip ?_
          | refine J_ret ?_
          | refine seqQ_ret ?_
          | refine blockQ_ret ?_
          | refine loopQ_exit ?_
          | refine loopQ_ret ?_
          | refine J_label ?_
        refine J_region ?_
        first
          | refine L_q (Q_ldA 0 rfl rfl rfl) rfl rfl rfl ?_
          | refine L_q (Q_ldA 1 rfl rfl rfl) rfl rfl rfl ?_
          | refine L_q (Q_ldA 2 rfl rfl rfl) rfl rfl rfl ?_
          | refine L_q (Q_ldA 3 rfl rfl rfl) rfl rfl rfl ?_
          | refine L_q (Q_ldA 4 rfl rfl rfl) rfl rfl rfl ?_
          | refine L_q (Q_ldA 5 rfl rfl rfl) rfl rfl rfl ?_
          | refine L_q (Q_ldA 6 rfl rfl rfl) rfl rfl rfl ?_
          | refine L_q (Q_ldA 7 rfl rfl rfl) rfl rfl rfl ?_
          | refine L_q (Q_ldA 8 rfl rfl rfl) rfl rfl rfl ?_
          | refine L_q (Q_ldA 9 rfl rfl rfl) rfl rfl rfl ?_
        first
          | refine L_q (Q_fa0 rfl) rfl rfl rfl ?_
          | refine L_q (Q_fa rfl rfl) rfl rfl rfl ?_
          | refine L_q (Q_pfa rfl) rfl rfl rfl ?_
        first
          | refine L_q (Q_ld 0 rfl rfl rfl rfl) rfl rfl rfl ?_
          | refine L_q (Q_ld 1 rfl rfl rfl rfl) rfl rfl rfl ?_
          | refine L_q (Q_ld 2 rfl rfl rfl rfl) rfl rfl rfl ?_
          | refine L_q (Q_ld 3 rfl rfl rfl rfl) rfl rfl rfl ?_
          | refine L_q (Q_ld 4 rfl rfl rfl rfl) rfl rfl rfl ?_
          | refine L_q (Q_ld 5 rfl rfl rfl rfl) rfl rfl rfl ?_
          | refine L_q (Q_ld 6 rfl rfl rfl rfl) rfl rfl rfl ?_
          | refine L_q (Q_ld 7 rfl rfl rfl rfl) rfl rfl rfl ?_
          | refine L_q (Q_ld 8 rfl rfl rfl rfl) rfl rfl rfl ?_
          | refine L_q (Q_ld 9 rfl rfl rfl rfl) rfl rfl rfl ?_
        first
          | refine L_q (Q_fa0 rfl) rfl rfl rfl ?_
          | refine L_q (Q_fa rfl rfl) rfl rfl rfl ?_
          | refine L_q (Q_pfa rfl) rfl rfl rfl ?_
        first
          | refine L_q (Q_ld 0 rfl rfl rfl rfl) rfl rfl rfl ?_
          | refine L_q (Q_ld 1 rfl rfl rfl rfl) rfl rfl rfl ?_
          | refine L_q (Q_ld 2 rfl rfl rfl rfl) rfl rfl rfl ?_
          | refine L_q (Q_ld 3 rfl rfl rfl rfl) rfl rfl rfl ?_
          | refine L_q (Q_ld 4 rfl rfl rfl rfl) rfl rfl rfl ?_
          | refine L_q (Q_ld 5 rfl rfl rfl rfl) rfl rfl rfl ?_
          | refine L_q (Q_ld 6 rfl rfl rfl rfl) rfl rfl rfl ?_
          | refine L_q (Q_ld 7 rfl rfl rfl rfl) rfl rfl rfl ?_
          | refine L_q (Q_ld 8 rfl rfl rfl rfl) rfl rfl rfl ?_
          | refine L_q (Q_ld 9 rfl rfl rfl rfl) rfl rfl rfl ?_
        first
          | refine L_q (Q_fa0 rfl) rfl rfl rfl ?_
          | refine L_q (Q_fa rfl rfl) rfl rfl rfl ?_
          | refine L_q (Q_pfa rfl) rfl rfl rfl ?_
        first
          | refine L_q (Q_ld 0 rfl rfl rfl rfl) rfl rfl rfl ?_
          | refine L_q (Q_ld 1 rfl rfl rfl rfl) rfl rfl rfl ?_
          | refine L_q (Q_ld 2 rfl rfl rfl rfl) rfl rfl rfl ?_
          | refine L_q (Q_ld 3 rfl rfl rfl rfl) rfl rfl rfl ?_
          | refine L_q (Q_ld 4 rfl rfl rfl rfl) rfl rfl rfl ?_
          | refine L_q (Q_ld 5 rfl rfl rfl rfl) rfl rfl rfl ?_
          | refine L_q (Q_ld 6 rfl rfl rfl rfl) rfl rfl rfl ?_
          | refine L_q (Q_ld 7 rfl rfl rfl rfl) rfl rfl rfl ?_
          | refine L_q (Q_ld 8 rfl rfl rfl rfl) rfl rfl rfl ?_
          | refine L_q (Q_ld 9 rfl rfl rfl rfl) rfl rfl rfl ?_
        refine L_o rfl rfl rfl (O_call [] [0,1,2,3,4,5,6] rs rfl rfl ?_)
        rintro _ _ ⟨rfl, rfl⟩
        refine JL.norm ?_
        refine L_q (Q_move rfl) rfl rfl rfl ?_
        refine L_q (Q_extract (v := .agg #[str a2, str b2]) rfl rfl) rfl rfl rfl ?_
        refine L_q (Q_extract (v := .bool ok) rfl rfl) rfl rfl rfl ?_
        refine L_o rfl rfl rfl (O_alloc fun b7 => ?_)
        first
          | refine L_s rfl rfl (O_stW 0 rfl rfl rfl rfl ?_)
          | refine L_s rfl rfl (O_stW 1 rfl rfl rfl rfl ?_)
          | refine L_s rfl rfl (O_stW 2 rfl rfl rfl rfl ?_)
          | refine L_s rfl rfl (O_stW 3 rfl rfl rfl rfl ?_)
          | refine L_s rfl rfl (O_stW 4 rfl rfl rfl rfl ?_)
          | refine L_s rfl rfl (O_stW 5 rfl rfl rfl rfl ?_)
          | refine L_s rfl rfl (O_stW 6 rfl rfl rfl rfl ?_)
          | refine L_s rfl rfl (O_stW 7 rfl rfl rfl rfl ?_)
          | refine L_s rfl rfl (O_stW 8 rfl rfl rfl rfl ?_)
          | refine L_s rfl rfl (O_stW 9 rfl rfl rfl rfl ?_)
        refine JL.norm ?_
        refine L_q (Q_assign rfl) rfl rfl rfl ?_
        refine JL_nil ?_
        repeat first
          | refine J_seq ?_
          | refine seqQ_normal ?_
          | refine J_condT rfl ?_
          | refine J_condF rfl ?_
          | refine J_block ?_
          | refine blockQ_normal ?_
          | refine J_exit ?_
          | refine seqQ_exit ?_
          | refine blockQ_hit ?_
          | refine blockQ_miss rfl ?_
          | refine J_skip ?_
          | refine J_ret ?_
          | refine seqQ_ret ?_
          | refine blockQ_ret ?_
          | refine loopQ_exit ?_
          | refine loopQ_ret ?_
          | refine J_label ?_
        repeat first
          | refine J_seq ?_
          | refine seqQ_normal ?_
          | refine J_condT rfl ?_
          | refine J_condF rfl ?_
          | refine J_block ?_
          | refine blockQ_normal ?_
          | refine J_exit ?_
          | refine seqQ_exit ?_
          | refine blockQ_hit ?_
          | refine blockQ_miss rfl ?_
          | refine J_skip ?_
          | refine J_ret ?_
          | refine seqQ_ret ?_
          | refine blockQ_ret ?_
          | refine loopQ_exit ?_
          | refine loopQ_ret ?_
          | refine J_label ?_
        refine J_region ?_
        first
          | refine L_q (Q_ldA 0 rfl rfl rfl) rfl rfl rfl ?_
          | refine L_q (Q_ldA 1 rfl rfl rfl) rfl rfl rfl ?_
          | refine L_q (Q_ldA 2 rfl rfl rfl) rfl rfl rfl ?_
          | refine L_q (Q_ldA 3 rfl rfl rfl) rfl rfl rfl ?_
          | refine L_q (Q_ldA 4 rfl rfl rfl) rfl rfl rfl ?_
          | refine L_q (Q_ldA 5 rfl rfl rfl) rfl rfl rfl ?_
          | refine L_q (Q_ldA 6 rfl rfl rfl) rfl rfl rfl ?_
          | refine L_q (Q_ldA 7 rfl rfl rfl) rfl rfl rfl ?_
          | refine L_q (Q_ldA 8 rfl rfl rfl) rfl rfl rfl ?_
          | refine L_q (Q_ldA 9 rfl rfl rfl) rfl rfl rfl ?_
        first
          | refine L_s rfl rfl (O_stW 0 rfl rfl rfl rfl ?_)
          | refine L_s rfl rfl (O_stW 1 rfl rfl rfl rfl ?_)
          | refine L_s rfl rfl (O_stW 2 rfl rfl rfl rfl ?_)
          | refine L_s rfl rfl (O_stW 3 rfl rfl rfl rfl ?_)
          | refine L_s rfl rfl (O_stW 4 rfl rfl rfl rfl ?_)
          | refine L_s rfl rfl (O_stW 5 rfl rfl rfl rfl ?_)
          | refine L_s rfl rfl (O_stW 6 rfl rfl rfl rfl ?_)
          | refine L_s rfl rfl (O_stW 7 rfl rfl rfl rfl ?_)
          | refine L_s rfl rfl (O_stW 8 rfl rfl rfl rfl ?_)
          | refine L_s rfl rfl (O_stW 9 rfl rfl rfl rfl ?_)
        refine JL.norm ?_
        refine JL_nil ?_
        repeat first
          | refine J_seq ?_
          | refine seqQ_normal ?_
          | refine J_condT rfl ?_
          | refine J_condF rfl ?_
          | refine J_block ?_
          | refine blockQ_normal ?_
          | refine J_exit ?_
          | refine seqQ_exit ?_
          | refine blockQ_hit ?_
          | refine blockQ_miss rfl ?_
          | refine J_skip ?_
          | refine J_ret ?_
          | refine seqQ_ret ?_
          | refine blockQ_ret ?_
          | refine loopQ_exit ?_
          | refine loopQ_ret ?_
          | refine J_label ?_
        repeat first
          | refine J_seq ?_
          | refine seqQ_normal ?_
          | refine J_condT rfl ?_
          | refine J_condF rfl ?_
          | refine J_block ?_
          | refine blockQ_normal ?_
          | refine J_exit ?_
          | refine seqQ_exit ?_
          | refine blockQ_hit ?_
          | refine blockQ_miss rfl ?_
          | refine J_skip ?_
          | refine J_ret ?_
          | refine seqQ_ret ?_
          | refine blockQ_ret ?_
          | refine loopQ_exit ?_
          | refine loopQ_ret ?_
          | refine J_label ?_
        refine J_region ?_
        refine L_q (Q_move rfl) rfl rfl rfl ?_
        first
          | refine L_q (Q_fa0 rfl) rfl rfl rfl ?_
          | refine L_q (Q_fa rfl rfl) rfl rfl rfl ?_
          | refine L_q (Q_pfa rfl) rfl rfl rfl ?_
        first
          | refine L_q (Q_ld 0 rfl rfl rfl rfl) rfl rfl rfl ?_
          | refine L_q (Q_ld 1 rfl rfl rfl rfl) rfl rfl rfl ?_
          | refine L_q (Q_ld 2 rfl rfl rfl rfl) rfl rfl rfl ?_
          | refine L_q (Q_ld 3 rfl rfl rfl rfl) rfl rfl rfl ?_
          | refine L_q (Q_ld 4 rfl rfl rfl rfl) rfl rfl rfl ?_
          | refine L_q (Q_ld 5 rfl rfl rfl rfl) rfl rfl rfl ?_
          | refine L_q (Q_ld 6 rfl rfl rfl rfl) rfl rfl rfl ?_
          | refine L_q (Q_ld 7 rfl rfl rfl rfl) rfl rfl rfl ?_
          | refine L_q (Q_ld 8 rfl rfl rfl rfl) rfl rfl rfl ?_
          | refine L_q (Q_ld 9 rfl rfl rfl rfl) rfl rfl rfl ?_
        first
          | refine L_q (Q_fa0 rfl) rfl rfl rfl ?_
          | refine L_q (Q_fa rfl rfl) rfl rfl rfl ?_
          | refine L_q (Q_pfa rfl) rfl rfl rfl ?_
        first
          | refine L_q (Q_ld 0 rfl rfl rfl rfl) rfl rfl rfl ?_
          | refine L_q (Q_ld 1 rfl rfl rfl rfl) rfl rfl rfl ?_
          | refine L_q (Q_ld 2 rfl rfl rfl rfl) rfl rfl rfl ?_
          | refine L_q (Q_ld 3 rfl rfl rfl rfl) rfl rfl rfl ?_
          | refine L_q (Q_ld 4 rfl rfl rfl rfl) rfl rfl rfl ?_
          | refine L_q (Q_ld 5 rfl rfl rfl rfl) rfl rfl rfl ?_
          | refine L_q (Q_ld 6 rfl rfl rfl rfl) rfl rfl rfl ?_
          | refine L_q (Q_ld 7 rfl rfl rfl rfl) rfl rfl rfl ?_
          | refine L_q (Q_ld 8 rfl rfl rfl rfl) rfl rfl rfl ?_
          | refine L_q (Q_ld 9 rfl rfl rfl rfl) rfl rfl rfl ?_
        first
          | refine L_q (Q_fa0 rfl) rfl rfl rfl ?_
          | refine L_q (Q_fa rfl rfl) rfl rfl rfl ?_
          | refine L_q (Q_pfa rfl) rfl rfl rfl ?_
        first
          | refine L_q (Q_ld 0 rfl rfl rfl rfl) rfl rfl rfl ?_
          | refine L_q (Q_ld 1 rfl rfl rfl rfl) rfl rfl rfl ?_
          | refine L_q (Q_ld 2 rfl rfl rfl rfl) rfl rfl rfl ?_
          | refine L_q (Q_ld 3 rfl rfl rfl rfl) rfl rfl rfl ?_
          | refine L_q (Q_ld 4 rfl rfl rfl rfl) rfl rfl rfl ?_
          | refine L_q (Q_ld 5 rfl rfl rfl rfl) rfl rfl rfl ?_
          | refine L_q (Q_ld 6 rfl rfl rfl rfl) rfl rfl rfl ?_
          | refine L_q (Q_ld 7 rfl rfl rfl rfl) rfl rfl rfl ?_
          | refine L_q (Q_ld 8 rfl rfl rfl rfl) rfl rfl rfl ?_
          | refine L_q (Q_ld 9 rfl rfl rfl rfl) rfl rfl rfl ?_
        refine L_o rfl rfl rfl (O_call [3,4,5] [0,1,2,6,7] ps rfl rfl ?_)
        rintro _ _ ⟨rfl, rfl⟩
        refine JL.norm ?_
        refine L_q (Q_move rfl) rfl rfl rfl ?_
        refine L_q ((Q_bneq rfl rfl).as (v' := .bool false) (congrArg Value.bool (by simp))) rfl rfl rfl ?_
        refine JL_nil ?_
        repeat first
          | refine J_seq ?_
          | refine seqQ_normal ?_
          | refine J_condT rfl ?_
          | refine J_condF rfl ?_
          | refine J_block ?_
          | refine blockQ_normal ?_
          | refine J_exit ?_
          | refine seqQ_exit ?_
          | refine blockQ_hit ?_
          | refine blockQ_miss rfl ?_
          | refine J_skip ?_
          | refine J_ret ?_
          | refine seqQ_ret ?_
          | refine blockQ_ret ?_
          | refine loopQ_exit ?_
          | refine loopQ_ret ?_
          | refine J_label ?_
        repeat first
          | refine J_seq ?_
          | refine seqQ_normal ?_
          | refine J_condT rfl ?_
          | refine J_condF rfl ?_
          | refine J_block ?_
          | refine blockQ_normal ?_
          | refine J_exit ?_
          | refine seqQ_exit ?_
          | refine blockQ_hit ?_
          | refine blockQ_miss rfl ?_
          | refine J_skip ?_
          | refine J_ret ?_
          | refine seqQ_ret ?_
          | refine blockQ_ret ?_
          | refine loopQ_exit ?_
          | refine loopQ_ret ?_
          | refine J_label ?_
        refine J_region ?_
        refine L_q (Q_move rfl) rfl rfl rfl ?_
        refine L_o rfl rfl rfl (O_call [0,1,2] [3,4,5,6,7] ld rfl rfl ?_)
        rintro _ _ ⟨rfl, rfl⟩
        refine JL.norm ?_
        refine L_q (Q_move rfl) rfl rfl rfl ?_
        refine L_q (Q_extract (v := str (loadT a2 b2)) rfl rfl) rfl rfl rfl ?_
        refine L_q (Q_extract (v := .int .i64 (loadN a2 b2 : Int)) rfl rfl) rfl rfl rfl ?_
        refine L_q (Q_assign rfl) rfl rfl rfl ?_
        refine L_q (Q_assign rfl) rfl rfl rfl ?_
        refine JL_nil ?_
        repeat first
          | refine J_seq ?_
          | refine seqQ_normal ?_
          | refine J_condT rfl ?_
          | refine J_condF rfl ?_
          | refine J_block ?_
          | refine blockQ_normal ?_
          | refine J_exit ?_
          | refine seqQ_exit ?_
          | refine blockQ_hit ?_
          | refine blockQ_miss rfl ?_
          | refine J_skip ?_
          | refine J_ret ?_
          | refine seqQ_ret ?_
          | refine blockQ_ret ?_
          | refine loopQ_exit ?_
          | refine loopQ_ret ?_
          | refine J_label ?_
        repeat first
          | refine J_seq ?_
          | refine seqQ_normal ?_
          | refine J_condT rfl ?_
          | refine J_condF rfl ?_
          | refine J_block ?_
          | refine blockQ_normal ?_
          | refine J_exit ?_
          | refine seqQ_exit ?_
          | refine blockQ_hit ?_
          | refine blockQ_miss rfl ?_
          | refine J_skip ?_
          | refine J_ret ?_
          | refine seqQ_ret ?_
          | refine blockQ_ret ?_
          | refine loopQ_exit ?_
          | refine loopQ_ret ?_
          | refine J_label ?_
        refine J_region ?_
        first
          | refine L_q (Q_ldA 0 rfl rfl rfl) rfl rfl rfl ?_
          | refine L_q (Q_ldA 1 rfl rfl rfl) rfl rfl rfl ?_
          | refine L_q (Q_ldA 2 rfl rfl rfl) rfl rfl rfl ?_
          | refine L_q (Q_ldA 3 rfl rfl rfl) rfl rfl rfl ?_
          | refine L_q (Q_ldA 4 rfl rfl rfl) rfl rfl rfl ?_
          | refine L_q (Q_ldA 5 rfl rfl rfl) rfl rfl rfl ?_
          | refine L_q (Q_ldA 6 rfl rfl rfl) rfl rfl rfl ?_
          | refine L_q (Q_ldA 7 rfl rfl rfl) rfl rfl rfl ?_
          | refine L_q (Q_ldA 8 rfl rfl rfl) rfl rfl rfl ?_
          | refine L_q (Q_ldA 9 rfl rfl rfl) rfl rfl rfl ?_
        refine L_o rfl rfl rfl (O_call [] [0,1,2,3,4,5,6,7] rl rfl rfl ?_)
        rintro _ _ ⟨rfl, rfl⟩
        refine JL.norm ?_
        refine L_q (Q_move rfl) rfl rfl rfl ?_
        refine L_q (Q_extract (v := str (loadT a2 b2)) rfl rfl) rfl rfl rfl ?_
        refine L_q (Q_extract (v := .int .i64 (loadN a2 b2 : Int)) rfl rfl) rfl rfl rfl ?_
        refine L_q (Q_assign rfl) rfl rfl rfl ?_
        refine L_q (Q_assign rfl) rfl rfl rfl ?_
        refine JL_nil ?_
        repeat first
          | refine J_seq ?_
          | refine seqQ_normal ?_
          | refine J_condT rfl ?_
          | refine J_condF rfl ?_
          | refine J_block ?_
          | refine blockQ_normal ?_
          | refine J_exit ?_
          | refine seqQ_exit ?_
          | refine blockQ_hit ?_
          | refine blockQ_miss rfl ?_
          | refine J_skip ?_
          | refine J_ret ?_
          | refine seqQ_ret ?_
          | refine blockQ_ret ?_
          | refine loopQ_exit ?_
          | refine loopQ_ret ?_
          | refine J_label ?_
        repeat first
          | refine J_seq ?_
          | refine seqQ_normal ?_
          | refine J_condT rfl ?_
          | refine J_condF rfl ?_
          | refine J_block ?_
          | refine blockQ_normal ?_
          | refine J_exit ?_
          | refine seqQ_exit ?_
          | refine blockQ_hit ?_
          | refine blockQ_miss rfl ?_
          | refine J_skip ?_
          | refine J_ret ?_
          | refine seqQ_ret ?_
          | refine blockQ_ret ?_
          | refine loopQ_exit ?_
          | refine loopQ_ret ?_
          | refine J_label ?_
        refine J_region ?_
        refine L_q (Q_move rfl) rfl rfl rfl ?_
        refine L_q (Q_move rfl) rfl rfl rfl ?_
        refine L_q ((Q_sneq rfl rfl).as (v' := .bool false) (congrArg Value.bool (decide_eq_false (by simp)))) rfl rfl rfl ?_
        refine L_q (Q_move rfl) rfl rfl rfl ?_
        refine L_q (Q_move rfl) rfl rfl rfl ?_
        refine L_q (Q_move rfl) rfl rfl rfl ?_
        refine L_q ((Q_neq rfl rfl).as (v' := .bool false) (congrArg Value.bool (decide_eq_false (by simp)))) rfl rfl rfl ?_
        first
          | refine L_q (Q_pickT rfl rfl) rfl rfl rfl ?_
          | refine L_q (Q_pickF rfl rfl) rfl rfl rfl ?_
          | refine L_q (Q_pickB rfl rfl rfl) rfl rfl rfl ?_
        refine JL_nil ?_
        repeat first
          | refine J_seq ?_
          | refine seqQ_normal ?_
          | refine J_condT rfl ?_
          | refine J_condF rfl ?_
          | refine J_block ?_
          | refine blockQ_normal ?_
          | refine J_exit ?_
          | refine seqQ_exit ?_
          | refine blockQ_hit ?_
          | refine blockQ_miss rfl ?_
          | refine J_skip ?_
          | refine J_ret ?_
          | refine seqQ_ret ?_
          | refine blockQ_ret ?_
          | refine loopQ_exit ?_
          | refine loopQ_ret ?_
          | refine J_label ?_
        repeat first
          | refine J_seq ?_
          | refine seqQ_normal ?_
          | refine J_condT rfl ?_
          | refine J_condF rfl ?_
          | refine J_block ?_
          | refine blockQ_normal ?_
          | refine J_exit ?_
          | refine seqQ_exit ?_
          | refine blockQ_hit ?_
          | refine blockQ_miss rfl ?_
          | refine J_skip ?_
          | refine J_ret ?_
          | refine seqQ_ret ?_
          | refine blockQ_ret ?_
          | refine loopQ_exit ?_
          | refine loopQ_ret ?_
          | refine J_label ?_
        refine J_region ?_
        refine L_q (Q_move rfl) rfl rfl rfl ?_
        refine L_q (Q_add rfl rfl (by first | exact IntWalk.i64_in _ (by omega) | exact IntWalk.u8_in _ (by omega) | exact IntWalk.u32_in _ (by omega) | exact IntWalk.u64_in _ (by omega) | rfl)) rfl rfl rfl ?_
        refine L_q (Q_assign rfl) rfl rfl rfl ?_
        refine JL_nil ?_
        repeat first
          | refine J_seq ?_
          | refine seqQ_normal ?_
          | refine J_condT rfl ?_
          | refine J_condF rfl ?_
          | refine J_block ?_
          | refine blockQ_normal ?_
          | refine J_exit ?_
          | refine seqQ_exit ?_
          | refine blockQ_hit ?_
          | refine blockQ_miss rfl ?_
          | refine J_skip ?_
          | refine J_ret ?_
          | refine seqQ_ret ?_
          | refine blockQ_ret ?_
          | refine loopQ_exit ?_
          | refine loopQ_ret ?_
          | refine J_label ?_
        exact loopQ_normal (k + 1, a2, b2, A, B) ⟨hlt, by simp only; omega, by simp only; omega⟩ (by simp only; omega) ⟨rfl, rfl, rfl, rfl, trivial⟩ (Ent.re [5, 0, 1, 2, 6, 7] rfl)
      · repeat first
          | refine J_seq ?_
          | refine seqQ_normal ?_
          | refine J_condT rfl ?_
          | refine J_condF rfl ?_
          | refine J_block ?_
          | refine blockQ_normal ?_
          | refine J_exit ?_
          | refine seqQ_exit ?_
          | refine blockQ_hit ?_
          | refine blockQ_miss rfl ?_
          | refine J_skip ?_
          | refine J_ret ?_
          | refine seqQ_ret ?_
          | refine blockQ_ret ?_
          | refine loopQ_exit ?_
          | refine loopQ_ret ?_
          | refine J_label ?_
        refine J_region ?_
        first
          | refine L_q (Q_fa0 rfl) rfl rfl rfl ?_
          | refine L_q (Q_fa rfl rfl) rfl rfl rfl ?_
          | refine L_q (Q_pfa rfl) rfl rfl rfl ?_
        first
          | refine L_q (Q_ld 0 rfl rfl rfl rfl) rfl rfl rfl ?_
          | refine L_q (Q_ld 1 rfl rfl rfl rfl) rfl rfl rfl ?_
          | refine L_q (Q_ld 2 rfl rfl rfl rfl) rfl rfl rfl ?_
          | refine L_q (Q_ld 3 rfl rfl rfl rfl) rfl rfl rfl ?_
          | refine L_q (Q_ld 4 rfl rfl rfl rfl) rfl rfl rfl ?_
          | refine L_q (Q_ld 5 rfl rfl rfl rfl) rfl rfl rfl ?_
          | refine L_q (Q_ld 6 rfl rfl rfl rfl) rfl rfl rfl ?_
          | refine L_q (Q_ld 7 rfl rfl rfl rfl) rfl rfl rfl ?_
          | refine L_q (Q_ld 8 rfl rfl rfl rfl) rfl rfl rfl ?_
          | refine L_q (Q_ld 9 rfl rfl rfl rfl) rfl rfl rfl ?_
        refine L_q ((Q_eql rfl rfl).as (v' := .bool false) (congrArg Value.bool (decide_eq_false hs0))) rfl rfl rfl ?_
        refine L_q (Q_move rfl) rfl rfl rfl ?_
        first
          | refine L_q (Q_fa0 rfl) rfl rfl rfl ?_
          | refine L_q (Q_fa rfl rfl) rfl rfl rfl ?_
          | refine L_q (Q_pfa rfl) rfl rfl rfl ?_
        first
          | refine L_q (Q_ld 0 rfl rfl rfl rfl) rfl rfl rfl ?_
          | refine L_q (Q_ld 1 rfl rfl rfl rfl) rfl rfl rfl ?_
          | refine L_q (Q_ld 2 rfl rfl rfl rfl) rfl rfl rfl ?_
          | refine L_q (Q_ld 3 rfl rfl rfl rfl) rfl rfl rfl ?_
          | refine L_q (Q_ld 4 rfl rfl rfl rfl) rfl rfl rfl ?_
          | refine L_q (Q_ld 5 rfl rfl rfl rfl) rfl rfl rfl ?_
          | refine L_q (Q_ld 6 rfl rfl rfl rfl) rfl rfl rfl ?_
          | refine L_q (Q_ld 7 rfl rfl rfl rfl) rfl rfl rfl ?_
          | refine L_q (Q_ld 8 rfl rfl rfl rfl) rfl rfl rfl ?_
          | refine L_q (Q_ld 9 rfl rfl rfl rfl) rfl rfl rfl ?_
        refine L_q ((Q_eql rfl rfl).as (v' := .bool false) (congrArg Value.bool (decide_eq_false hs1))) rfl rfl rfl ?_
        first
          | refine L_q (Q_pickT rfl rfl) rfl rfl rfl ?_
          | refine L_q (Q_pickF rfl rfl) rfl rfl rfl ?_
          | refine L_q (Q_pickB rfl rfl rfl) rfl rfl rfl ?_
        refine JL_nil ?_
        repeat first
          | refine J_seq ?_
          | refine seqQ_normal ?_
          | refine J_condT rfl ?_
          | refine J_condF rfl ?_
          | refine J_block ?_
          | refine blockQ_normal ?_
          | refine J_exit ?_
          | refine seqQ_exit ?_
          | refine blockQ_hit ?_
          | refine blockQ_miss rfl ?_
          | refine J_skip ?_
          | refine J_ret ?_
          | refine seqQ_ret ?_
          | refine blockQ_ret ?_
          | refine loopQ_exit ?_
          | refine loopQ_ret ?_
          | refine J_label ?_
        have rs := rwrite_ok E a b l[k].body l[k].n (by omega) (by omega)
        have ps := write_ok E p A B a b l[k].body l[k].n (by omega) (by omega)
        obtain ⟨n1, n2⟩ := doW_len (body := l[k].body) (upto := l[k].n) hla hlb
        generalize (doW a b l[k].body l[k].n).1 = a2 at *
        generalize (doW a b l[k].body l[k].n).2.1 = b2 at *
        generalize (doW a b l[k].body l[k].n).2.2 = er at *
        have ld := fun A2 B2 => load_ok E p A2 B2 a2 b2 (by omega) (by omega)
        have rl := rload_ok E a2 b2 (by omega) (by omega)
        repeat first
          | refine J_seq ?_
          | refine seqQ_normal ?_
          | refine J_condT rfl ?_
          | refine J_condF rfl ?_
          | refine J_block ?_
          | refine blockQ_normal ?_
          | refine J_exit ?_
          | refine seqQ_exit ?_
          | refine blockQ_hit ?_
          | refine blockQ_miss rfl ?_
          | refine J_skip ?_
          | refine J_ret ?_
          | refine seqQ_ret ?_
          | refine blockQ_ret ?_
          | refine loopQ_exit ?_
          | refine loopQ_ret ?_
          | refine J_label ?_
        refine J_region ?_
        first
          | refine L_q (Q_ldA 0 rfl rfl rfl) rfl rfl rfl ?_
          | refine L_q (Q_ldA 1 rfl rfl rfl) rfl rfl rfl ?_
          | refine L_q (Q_ldA 2 rfl rfl rfl) rfl rfl rfl ?_
          | refine L_q (Q_ldA 3 rfl rfl rfl) rfl rfl rfl ?_
          | refine L_q (Q_ldA 4 rfl rfl rfl) rfl rfl rfl ?_
          | refine L_q (Q_ldA 5 rfl rfl rfl) rfl rfl rfl ?_
          | refine L_q (Q_ldA 6 rfl rfl rfl) rfl rfl rfl ?_
          | refine L_q (Q_ldA 7 rfl rfl rfl) rfl rfl rfl ?_
          | refine L_q (Q_ldA 8 rfl rfl rfl) rfl rfl rfl ?_
          | refine L_q (Q_ldA 9 rfl rfl rfl) rfl rfl rfl ?_
        first
          | refine L_q (Q_fa0 rfl) rfl rfl rfl ?_
          | refine L_q (Q_fa rfl rfl) rfl rfl rfl ?_
          | refine L_q (Q_pfa rfl) rfl rfl rfl ?_
        first
          | refine L_q (Q_ld 0 rfl rfl rfl rfl) rfl rfl rfl ?_
          | refine L_q (Q_ld 1 rfl rfl rfl rfl) rfl rfl rfl ?_
          | refine L_q (Q_ld 2 rfl rfl rfl rfl) rfl rfl rfl ?_
          | refine L_q (Q_ld 3 rfl rfl rfl rfl) rfl rfl rfl ?_
          | refine L_q (Q_ld 4 rfl rfl rfl rfl) rfl rfl rfl ?_
          | refine L_q (Q_ld 5 rfl rfl rfl rfl) rfl rfl rfl ?_
          | refine L_q (Q_ld 6 rfl rfl rfl rfl) rfl rfl rfl ?_
          | refine L_q (Q_ld 7 rfl rfl rfl rfl) rfl rfl rfl ?_
          | refine L_q (Q_ld 8 rfl rfl rfl rfl) rfl rfl rfl ?_
          | refine L_q (Q_ld 9 rfl rfl rfl rfl) rfl rfl rfl ?_
        first
          | refine L_q (Q_fa0 rfl) rfl rfl rfl ?_
          | refine L_q (Q_fa rfl rfl) rfl rfl rfl ?_
          | refine L_q (Q_pfa rfl) rfl rfl rfl ?_
        first
          | refine L_q (Q_ld 0 rfl rfl rfl rfl) rfl rfl rfl ?_
          | refine L_q (Q_ld 1 rfl rfl rfl rfl) rfl rfl rfl ?_
          | refine L_q (Q_ld 2 rfl rfl rfl rfl) rfl rfl rfl ?_
          | refine L_q (Q_ld 3 rfl rfl rfl rfl) rfl rfl rfl ?_
          | refine L_q (Q_ld 4 rfl rfl rfl rfl) rfl rfl rfl ?_
          | refine L_q (Q_ld 5 rfl rfl rfl rfl) rfl rfl rfl ?_
          | refine L_q (Q_ld 6 rfl rfl rfl rfl) rfl rfl rfl ?_
          | refine L_q (Q_ld 7 rfl rfl rfl rfl) rfl rfl rfl ?_
          | refine L_q (Q_ld 8 rfl rfl rfl rfl) rfl rfl rfl ?_
          | refine L_q (Q_ld 9 rfl rfl rfl rfl) rfl rfl rfl ?_
        refine L_o rfl rfl rfl (O_call [] [0,1,2,3,4,5,6] rs rfl rfl ?_)
        rintro _ _ ⟨rfl, rfl⟩
        refine JL.norm ?_
        refine L_q (Q_move rfl) rfl rfl rfl ?_
        refine L_q (Q_extract (v := .agg #[str a2, str b2]) rfl rfl) rfl rfl rfl ?_
        refine L_q (Q_extract (v := .int .i64 er) rfl rfl) rfl rfl rfl ?_
        refine L_o rfl rfl rfl (O_alloc fun b9 => ?_)
        first
          | refine L_s rfl rfl (O_stW 0 rfl rfl rfl rfl ?_)
          | refine L_s rfl rfl (O_stW 1 rfl rfl rfl rfl ?_)
          | refine L_s rfl rfl (O_stW 2 rfl rfl rfl rfl ?_)
          | refine L_s rfl rfl (O_stW 3 rfl rfl rfl rfl ?_)
          | refine L_s rfl rfl (O_stW 4 rfl rfl rfl rfl ?_)
          | refine L_s rfl rfl (O_stW 5 rfl rfl rfl rfl ?_)
          | refine L_s rfl rfl (O_stW 6 rfl rfl rfl rfl ?_)
          | refine L_s rfl rfl (O_stW 7 rfl rfl rfl rfl ?_)
          | refine L_s rfl rfl (O_stW 8 rfl rfl rfl rfl ?_)
          | refine L_s rfl rfl (O_stW 9 rfl rfl rfl rfl ?_)
        refine JL.norm ?_
        refine L_q (Q_assign rfl) rfl rfl rfl ?_
        refine JL_nil ?_
        repeat first
          | refine J_seq ?_
          | refine seqQ_normal ?_
          | refine J_condT rfl ?_
          | refine J_condF rfl ?_
          | refine J_block ?_
          | refine blockQ_normal ?_
          | refine J_exit ?_
          | refine seqQ_exit ?_
          | refine blockQ_hit ?_
          | refine blockQ_miss rfl ?_
          | refine J_skip ?_
          | refine J_ret ?_
          | refine seqQ_ret ?_
          | refine blockQ_ret ?_
          | refine loopQ_exit ?_
          | refine loopQ_ret ?_
          | refine J_label ?_
        repeat first
          | refine J_seq ?_
          | refine seqQ_normal ?_
          | refine J_condT rfl ?_
          | refine J_condF rfl ?_
          | refine J_block ?_
          | refine blockQ_normal ?_
          | refine J_exit ?_
          | refine seqQ_exit ?_
          | refine blockQ_hit ?_
          | refine blockQ_miss rfl ?_
          | refine J_skip ?_
          | refine J_ret ?_
          | refine seqQ_ret ?_
          | refine blockQ_ret ?_
          | refine loopQ_exit ?_
          | refine loopQ_ret ?_
          | refine J_label ?_
        refine J_region ?_
        first
          | refine L_q (Q_ldA 0 rfl rfl rfl) rfl rfl rfl ?_
          | refine L_q (Q_ldA 1 rfl rfl rfl) rfl rfl rfl ?_
          | refine L_q (Q_ldA 2 rfl rfl rfl) rfl rfl rfl ?_
          | refine L_q (Q_ldA 3 rfl rfl rfl) rfl rfl rfl ?_
          | refine L_q (Q_ldA 4 rfl rfl rfl) rfl rfl rfl ?_
          | refine L_q (Q_ldA 5 rfl rfl rfl) rfl rfl rfl ?_
          | refine L_q (Q_ldA 6 rfl rfl rfl) rfl rfl rfl ?_
          | refine L_q (Q_ldA 7 rfl rfl rfl) rfl rfl rfl ?_
          | refine L_q (Q_ldA 8 rfl rfl rfl) rfl rfl rfl ?_
          | refine L_q (Q_ldA 9 rfl rfl rfl) rfl rfl rfl ?_
        first
          | refine L_s rfl rfl (O_stW 0 rfl rfl rfl rfl ?_)
          | refine L_s rfl rfl (O_stW 1 rfl rfl rfl rfl ?_)
          | refine L_s rfl rfl (O_stW 2 rfl rfl rfl rfl ?_)
          | refine L_s rfl rfl (O_stW 3 rfl rfl rfl rfl ?_)
          | refine L_s rfl rfl (O_stW 4 rfl rfl rfl rfl ?_)
          | refine L_s rfl rfl (O_stW 5 rfl rfl rfl rfl ?_)
          | refine L_s rfl rfl (O_stW 6 rfl rfl rfl rfl ?_)
          | refine L_s rfl rfl (O_stW 7 rfl rfl rfl rfl ?_)
          | refine L_s rfl rfl (O_stW 8 rfl rfl rfl rfl ?_)
          | refine L_s rfl rfl (O_stW 9 rfl rfl rfl rfl ?_)
        refine JL.norm ?_
        refine JL_nil ?_
        repeat first
          | refine J_seq ?_
          | refine seqQ_normal ?_
          | refine J_condT rfl ?_
          | refine J_condF rfl ?_
          | refine J_block ?_
          | refine blockQ_normal ?_
          | refine J_exit ?_
          | refine seqQ_exit ?_
          | refine blockQ_hit ?_
          | refine blockQ_miss rfl ?_
          | refine J_skip ?_
          | refine J_ret ?_
          | refine seqQ_ret ?_
          | refine blockQ_ret ?_
          | refine loopQ_exit ?_
          | refine loopQ_ret ?_
          | refine J_label ?_
        repeat first
          | refine J_seq ?_
          | refine seqQ_normal ?_
          | refine J_condT rfl ?_
          | refine J_condF rfl ?_
          | refine J_block ?_
          | refine blockQ_normal ?_
          | refine J_exit ?_
          | refine seqQ_exit ?_
          | refine blockQ_hit ?_
          | refine blockQ_miss rfl ?_
          | refine J_skip ?_
          | refine J_ret ?_
          | refine seqQ_ret ?_
          | refine blockQ_ret ?_
          | refine loopQ_exit ?_
          | refine loopQ_ret ?_
          | refine J_label ?_
        refine J_region ?_
        refine L_q (Q_move rfl) rfl rfl rfl ?_
        first
          | refine L_q (Q_fa0 rfl) rfl rfl rfl ?_
          | refine L_q (Q_fa rfl rfl) rfl rfl rfl ?_
          | refine L_q (Q_pfa rfl) rfl rfl rfl ?_
        first
          | refine L_q (Q_ld 0 rfl rfl rfl rfl) rfl rfl rfl ?_
          | refine L_q (Q_ld 1 rfl rfl rfl rfl) rfl rfl rfl ?_
          | refine L_q (Q_ld 2 rfl rfl rfl rfl) rfl rfl rfl ?_
          | refine L_q (Q_ld 3 rfl rfl rfl rfl) rfl rfl rfl ?_
          | refine L_q (Q_ld 4 rfl rfl rfl rfl) rfl rfl rfl ?_
          | refine L_q (Q_ld 5 rfl rfl rfl rfl) rfl rfl rfl ?_
          | refine L_q (Q_ld 6 rfl rfl rfl rfl) rfl rfl rfl ?_
          | refine L_q (Q_ld 7 rfl rfl rfl rfl) rfl rfl rfl ?_
          | refine L_q (Q_ld 8 rfl rfl rfl rfl) rfl rfl rfl ?_
          | refine L_q (Q_ld 9 rfl rfl rfl rfl) rfl rfl rfl ?_
        first
          | refine L_q (Q_fa0 rfl) rfl rfl rfl ?_
          | refine L_q (Q_fa rfl rfl) rfl rfl rfl ?_
          | refine L_q (Q_pfa rfl) rfl rfl rfl ?_
        first
          | refine L_q (Q_ld 0 rfl rfl rfl rfl) rfl rfl rfl ?_
          | refine L_q (Q_ld 1 rfl rfl rfl rfl) rfl rfl rfl ?_
          | refine L_q (Q_ld 2 rfl rfl rfl rfl) rfl rfl rfl ?_
          | refine L_q (Q_ld 3 rfl rfl rfl rfl) rfl rfl rfl ?_
          | refine L_q (Q_ld 4 rfl rfl rfl rfl) rfl rfl rfl ?_
          | refine L_q (Q_ld 5 rfl rfl rfl rfl) rfl rfl rfl ?_
          | refine L_q (Q_ld 6 rfl rfl rfl rfl) rfl rfl rfl ?_
          | refine L_q (Q_ld 7 rfl rfl rfl rfl) rfl rfl rfl ?_
          | refine L_q (Q_ld 8 rfl rfl rfl rfl) rfl rfl rfl ?_
          | refine L_q (Q_ld 9 rfl rfl rfl rfl) rfl rfl rfl ?_
        refine L_o rfl rfl rfl (O_call [3,4,5] [0,1,2,6,7] ps rfl rfl ?_)
        rintro _ _ ⟨A2, B2, rfl, rfl⟩
        refine JL.norm ?_
        refine L_q (Q_move rfl) rfl rfl rfl ?_
        refine L_q ((Q_neq rfl rfl).as (v' := .bool false) (congrArg Value.bool (decide_eq_false (by simp)))) rfl rfl rfl ?_
        refine JL_nil ?_
        repeat first
          | refine J_seq ?_
          | refine seqQ_normal ?_
          | refine J_condT rfl ?_
          | refine J_condF rfl ?_
          | refine J_block ?_
          | refine blockQ_normal ?_
          | refine J_exit ?_
          | refine seqQ_exit ?_
          | refine blockQ_hit ?_
          | refine blockQ_miss rfl ?_
          | refine J_skip ?_
          | refine J_ret ?_
          | refine seqQ_ret ?_
          | refine blockQ_ret ?_
          | refine loopQ_exit ?_
          | refine loopQ_ret ?_
          | refine J_label ?_
        repeat first
          | refine J_seq ?_
          | refine seqQ_normal ?_
          | refine J_condT rfl ?_
          | refine J_condF rfl ?_
          | refine J_block ?_
          | refine blockQ_normal ?_
          | refine J_exit ?_
          | refine seqQ_exit ?_
          | refine blockQ_hit ?_
          | refine blockQ_miss rfl ?_
          | refine J_skip ?_
          | refine J_ret ?_
          | refine seqQ_ret ?_
          | refine blockQ_ret ?_
          | refine loopQ_exit ?_
          | refine loopQ_ret ?_
          | refine J_label ?_
        refine J_region ?_
        refine L_q (Q_move rfl) rfl rfl rfl ?_
        refine L_o rfl rfl rfl (O_call [0,1,2] [3,4,5,6,7] (ld A2 B2) rfl rfl ?_)
        rintro _ _ ⟨rfl, rfl⟩
        refine JL.norm ?_
        refine L_q (Q_move rfl) rfl rfl rfl ?_
        refine L_q (Q_extract (v := str (loadT a2 b2)) rfl rfl) rfl rfl rfl ?_
        refine L_q (Q_extract (v := .int .i64 (loadN a2 b2 : Int)) rfl rfl) rfl rfl rfl ?_
        refine L_q (Q_assign rfl) rfl rfl rfl ?_
        refine L_q (Q_assign rfl) rfl rfl rfl ?_
        refine JL_nil ?_
        repeat first
          | refine J_seq ?_
          | refine seqQ_normal ?_
          | refine J_condT rfl ?_
          | refine J_condF rfl ?_
          | refine J_block ?_
          | refine blockQ_normal ?_
          | refine J_exit ?_
          | refine seqQ_exit ?_
          | refine blockQ_hit ?_
          | refine blockQ_miss rfl ?_
          | refine J_skip ?_
          | refine J_ret ?_
          | refine seqQ_ret ?_
          | refine blockQ_ret ?_
          | refine loopQ_exit ?_
          | refine loopQ_ret ?_
          | refine J_label ?_
        repeat first
          | refine J_seq ?_
          | refine seqQ_normal ?_
          | refine J_condT rfl ?_
          | refine J_condF rfl ?_
          | refine J_block ?_
          | refine blockQ_normal ?_
          | refine J_exit ?_
          | refine seqQ_exit ?_
          | refine blockQ_hit ?_
          | refine blockQ_miss rfl ?_
          | refine J_skip ?_
          | refine J_ret ?_
          | refine seqQ_ret ?_
          | refine blockQ_ret ?_
          | refine loopQ_exit ?_
          | refine loopQ_ret ?_
          | refine J_label ?_
        refine J_region ?_
        first
          | refine L_q (Q_ldA 0 rfl rfl rfl) rfl rfl rfl ?_
          | refine L_q (Q_ldA 1 rfl rfl rfl) rfl rfl rfl ?_
          | refine L_q (Q_ldA 2 rfl rfl rfl) rfl rfl rfl ?_
          | refine L_q (Q_ldA 3 rfl rfl rfl) rfl rfl rfl ?_
          | refine L_q (Q_ldA 4 rfl rfl rfl) rfl rfl rfl ?_
          | refine L_q (Q_ldA 5 rfl rfl rfl) rfl rfl rfl ?_
          | refine L_q (Q_ldA 6 rfl rfl rfl) rfl rfl rfl ?_
          | refine L_q (Q_ldA 7 rfl rfl rfl) rfl rfl rfl ?_
          | refine L_q (Q_ldA 8 rfl rfl rfl) rfl rfl rfl ?_
          | refine L_q (Q_ldA 9 rfl rfl rfl) rfl rfl rfl ?_
        refine L_o rfl rfl rfl (O_call [] [0,1,2,3,4,5,6,7] rl rfl rfl ?_)
        rintro _ _ ⟨rfl, rfl⟩
        refine JL.norm ?_
        refine L_q (Q_move rfl) rfl rfl rfl ?_
        refine L_q (Q_extract (v := str (loadT a2 b2)) rfl rfl) rfl rfl rfl ?_
        refine L_q (Q_extract (v := .int .i64 (loadN a2 b2 : Int)) rfl rfl) rfl rfl rfl ?_
        refine L_q (Q_assign rfl) rfl rfl rfl ?_
        refine L_q (Q_assign rfl) rfl rfl rfl ?_
        refine JL_nil ?_
        repeat first
          | refine J_seq ?_
          | refine seqQ_normal ?_
          | refine J_condT rfl ?_
          | refine J_condF rfl ?_
          | refine J_block ?_
          | refine blockQ_normal ?_
          | refine J_exit ?_
          | refine seqQ_exit ?_
          | refine blockQ_hit ?_
          | refine blockQ_miss rfl ?_
          | refine J_skip ?_
          | refine J_ret ?_
          | refine seqQ_ret ?_
          | refine blockQ_ret ?_
          | refine loopQ_exit ?_
          | refine loopQ_ret ?_
          | refine J_label ?_
        repeat first
          | refine J_seq ?_
          | refine seqQ_normal ?_
          | refine J_condT rfl ?_
          | refine J_condF rfl ?_
          | refine J_block ?_
          | refine blockQ_normal ?_
          | refine J_exit ?_
          | refine seqQ_exit ?_
          | refine blockQ_hit ?_
          | refine blockQ_miss rfl ?_
          | refine J_skip ?_
          | refine J_ret ?_
          | refine seqQ_ret ?_
          | refine blockQ_ret ?_
          | refine loopQ_exit ?_
          | refine loopQ_ret ?_
          | refine J_label ?_
        refine J_region ?_
        refine L_q (Q_move rfl) rfl rfl rfl ?_
        refine L_q (Q_move rfl) rfl rfl rfl ?_
        refine L_q ((Q_sneq rfl rfl).as (v' := .bool false) (congrArg Value.bool (decide_eq_false (by simp)))) rfl rfl rfl ?_
        refine L_q (Q_move rfl) rfl rfl rfl ?_
        refine L_q (Q_move rfl) rfl rfl rfl ?_
        refine L_q (Q_move rfl) rfl rfl rfl ?_
        refine L_q ((Q_neq rfl rfl).as (v' := .bool false) (congrArg Value.bool (decide_eq_false (by simp)))) rfl rfl rfl ?_
        first
          | refine L_q (Q_pickT rfl rfl) rfl rfl rfl ?_
          | refine L_q (Q_pickF rfl rfl) rfl rfl rfl ?_
          | refine L_q (Q_pickB rfl rfl rfl) rfl rfl rfl ?_
        refine JL_nil ?_
        repeat first
          | refine J_seq ?_
          | refine seqQ_normal ?_
          | refine J_condT rfl ?_
          | refine J_condF rfl ?_
          | refine J_block ?_
          | refine blockQ_normal ?_
          | refine J_exit ?_
          | refine seqQ_exit ?_
          | refine blockQ_hit ?_
          | refine blockQ_miss rfl ?_
          | refine J_skip ?_
          | refine J_ret ?_
          | refine seqQ_ret ?_
          | refine blockQ_ret ?_
          | refine loopQ_exit ?_
          | refine loopQ_ret ?_
          | refine J_label ?_
        repeat first
          | refine J_seq ?_
          | refine seqQ_normal ?_
          | refine J_condT rfl ?_
          | refine J_condF rfl ?_
          | refine J_block ?_
          | refine blockQ_normal ?_
          | refine J_exit ?_
          | refine seqQ_exit ?_
          | refine blockQ_hit ?_
          | refine blockQ_miss rfl ?_
          | refine J_skip ?_
          | refine J_ret ?_
          | refine seqQ_ret ?_
          | refine blockQ_ret ?_
          | refine loopQ_exit ?_
          | refine loopQ_ret ?_
          | refine J_label ?_
        refine J_region ?_
        refine L_q (Q_move rfl) rfl rfl rfl ?_
        refine L_q (Q_add rfl rfl (by first | exact IntWalk.i64_in _ (by omega) | exact IntWalk.u8_in _ (by omega) | exact IntWalk.u32_in _ (by omega) | exact IntWalk.u64_in _ (by omega) | rfl)) rfl rfl rfl ?_
        refine L_q (Q_assign rfl) rfl rfl rfl ?_
        refine JL_nil ?_
        repeat first
          | refine J_seq ?_
          | refine seqQ_normal ?_
          | refine J_condT rfl ?_
          | refine J_condF rfl ?_
          | refine J_block ?_
          | refine blockQ_normal ?_
          | refine J_exit ?_
          | refine seqQ_exit ?_
          | refine blockQ_hit ?_
          | refine blockQ_miss rfl ?_
          | refine J_skip ?_
          | refine J_ret ?_
          | refine seqQ_ret ?_
          | refine blockQ_ret ?_
          | refine loopQ_exit ?_
          | refine loopQ_ret ?_
          | refine J_label ?_
        exact loopQ_normal (k + 1, a2, b2, A2, B2) ⟨hlt, by simp only; omega, by simp only; omega⟩ (by simp only; omega) ⟨rfl, rfl, rfl, rfl, trivial⟩ (Ent.re [5, 0, 1, 2, 6, 7] rfl)
    · have sp := spoil_ok E p A B a b 2 0 1
      rw [doSpoil_out] at sp
      repeat first
        | refine J_seq ?_
        | refine seqQ_normal ?_
        | refine J_condT rfl ?_
        | refine J_condF rfl ?_
        | refine J_block ?_
        | refine blockQ_normal ?_
        | refine J_exit ?_
        | refine seqQ_exit ?_
        | refine blockQ_hit ?_
        | refine blockQ_miss rfl ?_
        | refine J_skip ?_
        | refine J_ret ?_
        | refine seqQ_ret ?_
        | refine blockQ_ret ?_
        | refine loopQ_exit ?_
        | refine loopQ_ret ?_
        | refine J_label ?_
      refine J_region ?_
      refine L_q (Q_move rfl) rfl rfl rfl ?_
      refine L_o rfl rfl rfl (O_call [1,2,3] [0,4,5] sp rfl rfl ?_)
      rintro _ _ ⟨rfl, rfl⟩
      refine JL.norm ?_
      first
        | refine L_q (Q_notD rfl) rfl rfl rfl ?_
        | refine L_q (Q_not rfl) rfl rfl rfl ?_
      refine L_q (Q_move rfl) rfl rfl rfl ?_
      refine L_o rfl rfl rfl (O_call [] [0,1,2,3,4,5] (awake_ok E) rfl rfl ?_)
      rintro _ _ ⟨rfl, rfl⟩
      refine JL.norm ?_
      first
        | refine L_q (Q_pickT rfl rfl) rfl rfl rfl ?_
        | refine L_q (Q_pickF rfl rfl) rfl rfl rfl ?_
        | refine L_q (Q_pickB rfl rfl rfl) rfl rfl rfl ?_
      refine L_q (Q_assign rfl) rfl rfl rfl ?_
      refine JL_nil ?_
      repeat first
        | refine J_seq ?_
        | refine seqQ_normal ?_
        | refine J_condT rfl ?_
        | refine J_condF rfl ?_
        | refine J_block ?_
        | refine blockQ_normal ?_
        | refine J_exit ?_
        | refine seqQ_exit ?_
        | refine blockQ_hit ?_
        | refine blockQ_miss rfl ?_
        | refine J_skip ?_
        | refine J_ret ?_
        | refine seqQ_ret ?_
        | refine blockQ_ret ?_
        | refine loopQ_exit ?_
        | refine loopQ_ret ?_
        | refine J_label ?_
      exact retQ_ret _ [] (.cons (RV_tmp rfl) .nil) ⟨rfl, rfl⟩ (Ent.re [5] rfl)
end Go.Proofs
