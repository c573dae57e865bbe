/- The law SnapLast: its walk. -/
import Derived.Test.YtjpkeibhimimpaaFew37
set_option autoImplicit false
namespace Go.Proofs
open Go.SL
attribute [local irreducible] J JL QOp JOp seqQ blockQ loopQ retQ slc cel hex star pur stars Does RV Ent pAt
theorem last_calls (E : World) (S : SV) (l : List De) (hl : ∀ d ∈ l, d.n ≤ 9223372036854775807) : Does Try.prog E 3 [S.v] [slc tDe false S l] fun v L => v = .bool true ∧ L = [] := by
  have hf := few_ok E S l
  refine Does.of Try.func3 rfl Try.ntmps3 rfl rfl fun F => ?_
  refine J.norm ?_
  cases hb : fewB l with
  | false =>
    rw [hb] at hf
    repeat first
      | refine J_seq ?_
      | refine seqQ_normal ?_
      | refine J_condT rfl ?_
      | refine J_condF rfl ?_
      | refine J_block ?_
      | refine blockQ_normal ?_
      | refine J_exit ?_
      | refine seqQ_exit ?_
      | refine blockQ_hit ?_
      | refine blockQ_miss rfl ?_
      | refine J_skip ?_
      | refine J_ret ?_
      | refine seqQ_ret ?_
      | refine blockQ_ret ?_
      | refine loopQ_exit ?_
      | refine loopQ_ret ?_
      | refine J_label ?_
    refine J_region ?_
    refine L_q (Q_assign rfl) rfl rfl rfl ?_
    refine JL_nil ?_
    repeat first
      | refine J_seq ?_
      | refine seqQ_normal ?_
      | refine J_condT rfl ?_
      | refine J_condF rfl ?_
      | refine J_block ?_
      | refine blockQ_normal ?_
      | refine J_exit ?_
      | refine seqQ_exit ?_
      | refine blockQ_hit ?_
      | refine blockQ_miss rfl ?_
      | refine J_skip ?_
      | refine J_ret ?_
      | refine seqQ_ret ?_
      | refine blockQ_ret ?_
      | refine loopQ_exit ?_
      | refine loopQ_ret ?_
      | refine J_label ?_
    repeat first
      | refine J_seq ?_
      | refine seqQ_normal ?_
      | refine J_condT rfl ?_
      | refine J_condF rfl ?_
      | refine J_block ?_
      | refine blockQ_normal ?_
      | refine J_exit ?_
      | refine seqQ_exit ?_
      | refine blockQ_hit ?_
      | refine blockQ_miss rfl ?_
      | refine J_skip ?_
      | refine J_ret ?_
      | refine seqQ_ret ?_
      | refine blockQ_ret ?_
      | refine loopQ_exit ?_
      | refine loopQ_ret ?_
      | refine J_label ?_
    refine J_region ?_
    refine L_q (Q_move rfl) rfl rfl rfl ?_
    refine L_o rfl rfl rfl (O_call [0] [1] hf rfl rfl ?_)
    rintro _ _ ⟨rfl, rfl⟩
    refine JL.norm ?_
    first
      | refine L_q (Q_notD rfl) rfl rfl rfl ?_
      | refine L_q (Q_not rfl) rfl rfl rfl ?_
    refine JL_nil ?_
    repeat first
      | refine J_seq ?_
      | refine seqQ_normal ?_
      | refine J_condT rfl ?_
      | refine J_condF rfl ?_
      | refine J_block ?_
      | refine blockQ_normal ?_
      | refine J_exit ?_
      | refine seqQ_exit ?_
      | refine blockQ_hit ?_
      | refine blockQ_miss rfl ?_
      | refine J_skip ?_
      | refine J_ret ?_
      | refine seqQ_ret ?_
      | refine blockQ_ret ?_
      | refine loopQ_exit ?_
      | refine loopQ_ret ?_
      | refine J_label ?_
    repeat first
      | refine J_seq ?_
      | refine seqQ_normal ?_
      | refine J_condT rfl ?_
      | refine J_condF rfl ?_
      | refine J_block ?_
      | refine blockQ_normal ?_
      | refine J_exit ?_
      | refine seqQ_exit ?_
      | refine blockQ_hit ?_
      | refine blockQ_miss rfl ?_
      | refine J_skip ?_
      | refine J_ret ?_
      | refine seqQ_ret ?_
      | refine blockQ_ret ?_
      | refine loopQ_exit ?_
      | refine loopQ_ret ?_
      | refine J_label ?_
    refine J_region ?_
    refine L_o rfl rfl rfl (O_call [] [0,1] (awake_ok E) rfl rfl ?_)
    rintro _ _ ⟨rfl, rfl⟩
    refine JL.norm ?_
    refine L_q (Q_assign rfl) rfl rfl rfl ?_
    refine JL_nil ?_
    repeat first
      | refine J_seq ?_
      | refine seqQ_normal ?_
      | refine J_condT rfl ?_
      | refine J_condF rfl ?_
      | refine J_block ?_
      | refine blockQ_normal ?_
      | refine J_exit ?_
      | refine seqQ_exit ?_
      | refine blockQ_hit ?_
      | refine blockQ_miss rfl ?_
      | refine J_skip ?_
      | refine J_ret ?_
      | refine seqQ_ret ?_
      | refine blockQ_ret ?_
      | refine loopQ_exit ?_
      | refine loopQ_ret ?_
      | refine J_label ?_
    exact retQ_ret _ [] (.cons (RV_tmp rfl) .nil) ⟨rfl, rfl⟩ (Ent.re [1] rfl)
  | true =>
    rw [hb] at hf
    have hl40 := (few_text hb).1
    repeat first
      | refine J_seq ?_
      | refine seqQ_normal ?_
      | refine J_condT rfl ?_
      | refine J_condF rfl ?_
      | refine J_block ?_
      | refine blockQ_normal ?_
      | refine J_exit ?_
      | refine seqQ_exit ?_
      | refine blockQ_hit ?_
      | refine blockQ_miss rfl ?_
      | refine J_skip ?_
      | refine J_ret ?_
      | refine seqQ_ret ?_
      | refine blockQ_ret ?_
      | refine loopQ_exit ?_
      | refine loopQ_ret ?_
      | refine J_label ?_
    refine J_region ?_
    refine L_q (Q_assign rfl) rfl rfl rfl ?_
    refine JL_nil ?_
    repeat first
      | refine J_seq ?_
      | refine seqQ_normal ?_
      | refine J_condT rfl ?_
      | refine J_condF rfl ?_
      | refine J_block ?_
      | refine blockQ_normal ?_
      | refine J_exit ?_
      | refine seqQ_exit ?_
      | refine blockQ_hit ?_
      | refine blockQ_miss rfl ?_
      | refine J_skip ?_
      | refine J_ret ?_
      | refine seqQ_ret ?_
      | refine blockQ_ret ?_
      | refine loopQ_exit ?_
      | refine loopQ_ret ?_
      | refine J_label ?_
    repeat first
      | refine J_seq ?_
      | refine seqQ_normal ?_
      | refine J_condT rfl ?_
      | refine J_condF rfl ?_
      | refine J_block ?_
      | refine blockQ_normal ?_
      | refine J_exit ?_
      | refine seqQ_exit ?_
      | refine blockQ_hit ?_
      | refine blockQ_miss rfl ?_
      | refine J_skip ?_
      | refine J_ret ?_
      | refine seqQ_ret ?_
      | refine blockQ_ret ?_
      | refine loopQ_exit ?_
      | refine loopQ_ret ?_
      | refine J_label ?_
    refine J_region ?_
    refine L_q (Q_move rfl) rfl rfl rfl ?_
    refine L_o rfl rfl rfl (O_call [0] [1] hf rfl rfl ?_)
    rintro _ _ ⟨rfl, rfl⟩
    refine JL.norm ?_
    first
      | refine L_q (Q_notD rfl) rfl rfl rfl ?_
      | refine L_q (Q_not rfl) rfl rfl rfl ?_
    refine JL_nil ?_
    repeat first
      | refine J_seq ?_
      | refine seqQ_normal ?_
      | refine J_condT rfl ?_
      | refine J_condF rfl ?_
      | refine J_block ?_
      | refine blockQ_normal ?_
      | refine J_exit ?_
      | refine seqQ_exit ?_
      | refine blockQ_hit ?_
      | refine blockQ_miss rfl ?_
      | refine J_skip ?_
      | refine J_ret ?_
      | refine seqQ_ret ?_
      | refine blockQ_ret ?_
      | refine loopQ_exit ?_
      | refine loopQ_ret ?_
      | refine J_label ?_
    repeat first
      | refine J_seq ?_
      | refine seqQ_normal ?_
      | refine J_condT rfl ?_
      | refine J_condF rfl ?_
      | refine J_block ?_
      | refine blockQ_normal ?_
      | refine J_exit ?_
      | refine seqQ_exit ?_
      | refine blockQ_hit ?_
      | refine blockQ_miss rfl ?_
      | refine J_skip ?_
      | refine J_ret ?_
      | refine seqQ_ret ?_
      | refine blockQ_ret ?_
      | refine loopQ_exit ?_
      | refine loopQ_ret ?_
      | refine J_label ?_
    refine J_region ?_
    refine L_o rfl rfl rfl (O_call [] [0,1] (snew_ok E) rfl rfl ?_)
    rintro _ _ ⟨p, rfl, rfl⟩
    refine JL.norm ?_
    refine L_q (Q_assign rfl) rfl rfl rfl ?_
    refine JL_nil ?_
    repeat first
      | refine J_seq ?_
      | refine seqQ_normal ?_
      | refine J_condT rfl ?_
      | refine J_condF rfl ?_
      | refine J_block ?_
      | refine blockQ_normal ?_
      | refine J_exit ?_
      | refine seqQ_exit ?_
      | refine blockQ_hit ?_
      | refine blockQ_miss rfl ?_
      | refine J_skip ?_
      | refine J_ret ?_
      | refine seqQ_ret ?_
      | refine blockQ_ret ?_
      | refine loopQ_exit ?_
      | refine loopQ_ret ?_
      | refine J_label ?_
    repeat first
      | refine J_seq ?_
      | refine seqQ_normal ?_
      | refine J_condT rfl ?_
      | refine J_condF rfl ?_
      | refine J_block ?_
      | refine blockQ_normal ?_
      | refine J_exit ?_
      | refine seqQ_exit ?_
      | refine blockQ_hit ?_
      | refine blockQ_miss rfl ?_
      | refine J_skip ?_
      | refine J_ret ?_
      | refine seqQ_ret ?_
      | refine blockQ_ret ?_
      | refine loopQ_exit ?_
      | refine loopQ_ret ?_
      | refine J_label ?_
    refine J_region ?_
    refine L_q (Q_assign rfl) rfl rfl rfl ?_
    refine L_q (Q_assign rfl) rfl rfl rfl ?_
    refine JL_nil ?_
    repeat first
      | refine J_seq ?_
      | refine seqQ_normal ?_
      | refine J_condT rfl ?_
      | refine J_condF rfl ?_
      | refine J_block ?_
      | refine blockQ_normal ?_
      | refine J_exit ?_
      | refine seqQ_exit ?_
      | refine blockQ_hit ?_
      | refine blockQ_miss rfl ?_
      | refine J_skip ?_
      | refine J_ret ?_
      | refine seqQ_ret ?_
      | refine blockQ_ret ?_
      | refine loopQ_exit ?_
      | refine loopQ_ret ?_
      | refine J_label ?_
    repeat first
      | refine J_seq ?_
      | refine seqQ_normal ?_
      | refine J_condT rfl ?_
      | refine J_condF rfl ?_
      | refine J_block ?_
      | refine blockQ_normal ?_
      | refine J_exit ?_
      | refine seqQ_exit ?_
      | refine blockQ_hit ?_
      | refine blockQ_miss rfl ?_
      | refine J_skip ?_
      | refine J_ret ?_
      | refine seqQ_ret ?_
      | refine blockQ_ret ?_
      | refine loopQ_exit ?_
      | refine loopQ_ret ?_
      | refine J_label ?_
    refine J_region ?_
    refine L_q (Q_assign rfl) rfl rfl rfl ?_
    refine JL_nil ?_
    repeat first
      | refine J_seq ?_
      | refine seqQ_normal ?_
      | refine J_condT rfl ?_
      | refine J_condF rfl ?_
      | refine J_block ?_
      | refine blockQ_normal ?_
      | refine J_exit ?_
      | refine seqQ_exit ?_
      | refine blockQ_hit ?_
      | refine blockQ_miss rfl ?_
      | refine J_skip ?_
      | refine J_ret ?_
      | refine seqQ_ret ?_
      | refine blockQ_ret ?_
      | refine loopQ_exit ?_
      | refine loopQ_ret ?_
      | refine J_label ?_
    refine J_loop (fun i : Nat × List UInt8 × Nat × List UInt8 × List UInt8 × SV × SV => Tells i.2.2.2.1 i.2.2.2.2.1 i.2.1 i.2.2.1 ∧ i.2.2.1 ≤ i.1 ∧ i.1 ≤ l.length ∧ i.2.2.2.1.length ≤ 40000 ∧ i.2.2.2.2.1.length ≤ 40000)
      (fun i => [(0, S.v), (3, .pointer (some ⟨p, 0, none⟩)), (4, str i.2.1), (5, .int .i64 (i.2.2.1 : Int)), (6, .int .i64 (i.1 : Int))])
      (fun i => [cel p [i.2.2.2.2.2.1.v, i.2.2.2.2.2.2.v] 59, slc tB true i.2.2.2.2.2.1 i.2.2.2.1, slc tB true i.2.2.2.2.2.2 i.2.2.2.2.1, slc tDe false S l, F]) (fun i => l.length - i.1) (0, [], 0, [], [], SV.nil, SV.nil) ⟨tells_nil, by simp, by simp, by simp, by simp⟩ ⟨rfl, rfl, rfl, rfl, rfl, trivial⟩ (Ent.refl _) ?_
    rintro ⟨k, w, n, a, b, A, B⟩ ⟨ht, hnk, hk, hla, hlb⟩
    dsimp only at ht hnk hk hla hlb ⊢
    repeat first
      | refine J_seq ?_
      | refine seqQ_normal ?_
      | refine J_condT rfl ?_
      | refine J_condF rfl ?_
      | refine J_block ?_
      | refine blockQ_normal ?_
      | refine J_exit ?_
      | refine seqQ_exit ?_
      | refine blockQ_hit ?_
      | refine blockQ_miss rfl ?_
      | refine J_skip ?_
      | refine J_ret ?_
      | refine seqQ_ret ?_
      | refine blockQ_ret ?_
      | refine loopQ_exit ?_
      | refine loopQ_ret ?_
      | refine J_label ?_
    refine J_region ?_
    refine L_q (Q_move rfl) rfl rfl rfl ?_
    refine L_q (Q_move rfl) rfl rfl rfl ?_
    first
      | refine L_q (Q_lenAt 0 rfl rfl) rfl rfl rfl ?_
      | refine L_q (Q_lenAt 1 rfl rfl) rfl rfl rfl ?_
      | refine L_q (Q_lenAt 2 rfl rfl) rfl rfl rfl ?_
      | refine L_q (Q_lenAt 3 rfl rfl) rfl rfl rfl ?_
      | refine L_q (Q_lenAt 4 rfl rfl) rfl rfl rfl ?_
    refine L_q (Q_lss rfl rfl) rfl rfl rfl ?_
    refine JL_nil ?_
    repeat first
      | refine J_seq ?_
      | refine seqQ_normal ?_
      | refine J_condT rfl ?_
      | refine J_condF rfl ?_
      | refine J_block ?_
      | refine blockQ_normal ?_
      | refine J_exit ?_
      | refine seqQ_exit ?_
      | refine blockQ_hit ?_
      | refine blockQ_miss rfl ?_
      | refine J_skip ?_
      | refine J_ret ?_
      | refine seqQ_ret ?_
      | refine blockQ_ret ?_
      | refine loopQ_exit ?_
      | refine loopQ_ret ?_
      | refine J_label ?_
    refine J_condD rfl (fun h => ?_) (fun h => ?_)
    · have hlt : k < l.length := by omega
      have hN := hl l[k] (List.getElem_mem hlt)
      have hw := write_ok E p A B a b l[k].body l[k].n (Nat.le_trans hla (by decide)) (Nat.le_trans hlb (by decide))
      have hlen := doW_len (body := l[k].body) (upto := l[k].n) hla hlb
      by_cases hbig : 32768 < l[k].body.length
      · have ht' : Tells (doW a b l[k].body l[k].n).1 (doW a b l[k].body l[k].n).2.1 w n := by rw [doW_err hbig]; exact ht
        have he : (doW a b l[k].body l[k].n).2.2 = 2 := by rw [doW_err hbig]
        rw [he] at hw
        repeat first
          | refine J_seq ?_
          | refine seqQ_normal ?_
          | refine J_condT rfl ?_
          | refine J_condF rfl ?_
          | refine J_block ?_
          | refine blockQ_normal ?_
          | refine J_exit ?_
          | refine seqQ_exit ?_
          | refine blockQ_hit ?_
          | refine blockQ_miss rfl ?_
          | refine J_skip ?_
          | refine J_ret ?_
          | refine seqQ_ret ?_
          | refine blockQ_ret ?_
          | refine loopQ_exit ?_
          | refine loopQ_ret ?_
          | refine J_label ?_
        refine J_drawH [3] [0, 1, 2, 3, 4, 5, 6, 7, 8, 9, 10, 12] (.quiet 0 (.quiet 1 (.quiet 2 (.quiet 3 (.quiet 4 (.quiet 5 (.quiet 6 (.quiet 7 (.quiet 8 (.quiet 9 (.quiet 10 (.loud 11 (.quiet 12 .done))))))))))))) Try.mixed (by kernel_rfl) (by kernel_rfl) (by repeat (first | exact retQ_noP | refine seqQ_noP ?_ | refine blockQ_noP ?_ | refine loopQ_noP ?_)) ?_
        refine S_q (Ent.re [3] rfl) rfl (Q_move rfl) rfl rfl rfl ?_
        refine S_q (Ent.re [3] rfl) rfl (Q_move rfl) rfl rfl rfl ?_
        refine S_q (Ent.re [3] rfl) rfl (Q_move rfl) rfl rfl rfl ?_
        refine S_q (Ent.re [3] rfl) rfl (Q_ixAt 0 k rfl rfl rfl rfl hlt rfl) rfl rfl rfl ?_
        refine S_q (Ent.re [3] rfl) rfl (Q_pfa rfl) rfl rfl rfl ?_
        refine S_q (Ent.re [3] rfl) rfl (Q_ldEAt 0 k 3 (v := str l[k].body) rfl rfl rfl rfl hlt (by decide) rfl) rfl rfl rfl ?_
        refine S_q (Ent.re [3] rfl) rfl (Q_move rfl) rfl rfl rfl ?_
        refine S_q (Ent.re [3] rfl) rfl (Q_move rfl) rfl rfl rfl ?_
        refine S_q (Ent.re [3] rfl) rfl (Q_ixAt 0 k rfl rfl rfl rfl hlt rfl) rfl rfl rfl ?_
        refine S_q (Ent.re [3] rfl) rfl (Q_pfa rfl) rfl rfl rfl ?_
        refine S_q (Ent.re [3] rfl) rfl (Q_ldEAt 0 k 1 (v := .int .i64 l[k].n) rfl rfl rfl rfl hlt (by decide) rfl) rfl rfl rfl ?_
        refine S_o rfl rfl rfl rfl (O_call [0,1,2] [3,4] hw rfl rfl ?_)
        (rintro _ _ ⟨A', B', rfl, rfl⟩; refine ⟨_, fun _ => ⟨Ent.reN [3] rfl, Ent.refl _⟩, ?_⟩)
        refine JS.norm ?_
        refine S_q (Ent.re [3] rfl) rfl (Q_assign rfl) rfl rfl rfl ?_
        refine S_nil ?_
        repeat first
          | refine J_seq ?_
          | refine seqQ_normal ?_
          | refine J_condT rfl ?_
          | refine J_condF rfl ?_
          | refine J_block ?_
          | refine blockQ_normal ?_
          | refine J_exit ?_
          | refine seqQ_exit ?_
          | refine blockQ_hit ?_
          | refine blockQ_miss rfl ?_
          | refine J_skip ?_
          | refine J_ret ?_
          | refine seqQ_ret ?_
          | refine blockQ_ret ?_
          | refine loopQ_exit ?_
          | refine loopQ_ret ?_
          | refine J_label ?_
        have hld := load_ok E p A' B' _ _ (Nat.le_trans hlen.1 (by decide)) (Nat.le_trans hlen.2 (by decide))
        rw [ht'.load.1, ht'.load.2] at hld
        repeat first
          | refine J_seq ?_
          | refine seqQ_normal ?_
          | refine J_condT rfl ?_
          | refine J_condF rfl ?_
          | refine J_block ?_
          | refine blockQ_normal ?_
          | refine J_exit ?_
          | refine seqQ_exit ?_
          | refine blockQ_hit ?_
          | refine blockQ_miss rfl ?_
          | refine J_skip ?_
          | refine J_ret ?_
          | refine seqQ_ret ?_
          | refine blockQ_ret ?_
          | refine loopQ_exit ?_
          | refine loopQ_ret ?_
          | refine J_label ?_
        refine J_drawH [3] [0, 1, 2, 3, 4, 5, 6, 7, 8, 9, 10, 11, 12, 13, 14, 15, 16, 17, 18, 19, 20, 21, 22, 23, 24] (.quiet 0 (.quiet 1 (.quiet 2 (.quiet 3 (.quiet 4 (.quiet 5 (.quiet 6 (.quiet 7 (.quiet 8 (.quiet 9 (.quiet 10 (.quiet 11 (.quiet 12 (.quiet 13 (.quiet 14 (.quiet 15 (.quiet 16 (.quiet 17 (.quiet 18 (.quiet 19 (.quiet 20 (.quiet 21 (.quiet 22 (.quiet 23 (.quiet 24 .done))))))))))))))))))))))))) Try.mixed (by kernel_rfl) (by kernel_rfl) (by repeat (first | exact retQ_noP | refine seqQ_noP ?_ | refine blockQ_noP ?_ | refine loopQ_noP ?_)) ?_
        refine S_q (Ent.re [3] rfl) rfl (Q_move rfl) rfl rfl rfl ?_
        refine S_q (Ent.re [3] rfl) rfl ((Q_eql rfl rfl).as (v' := .bool false) rfl) rfl rfl rfl ?_
        refine S_q (Ent.re [3] rfl) rfl (Q_move rfl) rfl rfl rfl ?_
        refine S_n (Ent.re [3] rfl) rfl rfl rfl rfl ?_
        refine S_n (Ent.re [3] rfl) rfl rfl rfl rfl ?_
        refine S_n (Ent.re [3] rfl) rfl rfl rfl rfl ?_
        refine S_n (Ent.re [3] rfl) rfl rfl rfl rfl ?_
        refine S_n (Ent.re [3] rfl) rfl rfl rfl rfl ?_
        refine S_n (Ent.re [3] rfl) rfl rfl rfl rfl ?_
        refine S_n (Ent.re [3] rfl) rfl rfl rfl rfl ?_
        refine S_n (Ent.re [3] rfl) rfl rfl rfl rfl ?_
        refine S_n (Ent.re [3] rfl) rfl rfl rfl rfl ?_
        refine S_n (Ent.re [3] rfl) rfl rfl rfl rfl ?_
        refine S_n (Ent.re [3] rfl) rfl rfl rfl rfl ?_
        refine S_n (Ent.re [3] rfl) rfl rfl rfl rfl ?_
        refine S_n (Ent.re [3] rfl) rfl rfl rfl rfl ?_
        refine S_n (Ent.re [3] rfl) rfl rfl rfl rfl ?_
        refine S_n (Ent.re [3] rfl) rfl rfl rfl rfl ?_
        refine S_n (Ent.re [3] rfl) rfl rfl rfl rfl ?_
        refine S_n (Ent.re [3] rfl) rfl rfl rfl rfl ?_
        refine S_n (Ent.re [3] rfl) rfl rfl rfl rfl ?_
        refine S_n (Ent.re [3] rfl) rfl rfl rfl rfl ?_
        refine S_n (Ent.re [3] rfl) rfl rfl rfl rfl ?_
        refine S_n (Ent.re [3] rfl) rfl rfl rfl rfl ?_
        first
          | refine S_q (Ent.re [3] rfl) rfl (Q_pickT rfl rfl) rfl rfl rfl ?_
          | refine S_q (Ent.re [3] rfl) rfl (Q_pickF rfl rfl) rfl rfl rfl ?_
          | refine S_q (Ent.re [3] rfl) rfl (Q_pickB rfl rfl rfl) rfl rfl rfl ?_
        refine S_nil ?_
        repeat first
          | refine J_seq ?_
          | refine seqQ_normal ?_
          | refine J_condT rfl ?_
          | refine J_condF rfl ?_
          | refine J_block ?_
          | refine blockQ_normal ?_
          | refine J_exit ?_
          | refine seqQ_exit ?_
          | refine blockQ_hit ?_
          | refine blockQ_miss rfl ?_
          | refine J_skip ?_
          | refine J_ret ?_
          | refine seqQ_ret ?_
          | refine blockQ_ret ?_
          | refine loopQ_exit ?_
          | refine loopQ_ret ?_
          | refine J_label ?_
        repeat first
          | refine J_seq ?_
          | refine seqQ_normal ?_
          | refine J_condT rfl ?_
          | refine J_condF rfl ?_
          | refine J_block ?_
          | refine blockQ_normal ?_
          | refine J_exit ?_
          | refine seqQ_exit ?_
          | refine blockQ_hit ?_
          | refine blockQ_miss rfl ?_
          | refine J_skip ?_
          | refine J_ret ?_
          | refine seqQ_ret ?_
          | refine blockQ_ret ?_
          | refine loopQ_exit ?_
          | refine loopQ_ret ?_
          | refine J_label ?_
        refine J_region ?_
        refine L_q (Q_move rfl) rfl rfl rfl ?_
        refine L_o rfl rfl rfl (O_call [0,1,2] [3,4] hld rfl rfl ?_)
        rintro _ _ ⟨rfl, rfl⟩
        refine JL.norm ?_
        refine L_q (Q_move rfl) rfl rfl rfl ?_
        refine L_q (Q_extract (v := str w) rfl rfl) rfl rfl rfl ?_
        refine L_q (Q_extract (v := .int .i64 ((n : Nat) : Int)) rfl rfl) rfl rfl rfl ?_
        refine L_q (Q_assign rfl) rfl rfl rfl ?_
        refine L_q (Q_assign rfl) rfl rfl rfl ?_
        refine JL_nil ?_
        repeat first
          | refine J_seq ?_
          | refine seqQ_normal ?_
          | refine J_condT rfl ?_
          | refine J_condF rfl ?_
          | refine J_block ?_
          | refine blockQ_normal ?_
          | refine J_exit ?_
          | refine seqQ_exit ?_
          | refine blockQ_hit ?_
          | refine blockQ_miss rfl ?_
          | refine J_skip ?_
          | refine J_ret ?_
          | refine seqQ_ret ?_
          | refine blockQ_ret ?_
          | refine loopQ_exit ?_
          | refine loopQ_ret ?_
          | refine J_label ?_
        repeat first
          | refine J_seq ?_
          | refine seqQ_normal ?_
          | refine J_condT rfl ?_
          | refine J_condF rfl ?_
          | refine J_block ?_
          | refine blockQ_normal ?_
          | refine J_exit ?_
          | refine seqQ_exit ?_
          | refine blockQ_hit ?_
          | refine blockQ_miss rfl ?_
          | refine J_skip ?_
          | refine J_ret ?_
          | refine seqQ_ret ?_
          | refine blockQ_ret ?_
          | refine loopQ_exit ?_
          | refine loopQ_ret ?_
          | refine J_label ?_
        refine J_region ?_
        refine L_q (Q_move rfl) rfl rfl rfl ?_
        refine L_q (Q_move rfl) rfl rfl rfl ?_
        refine L_q ((Q_sneq rfl rfl).as (v' := .bool false) (congrArg Value.bool (decide_eq_false (by simp)))) rfl rfl rfl ?_
        refine L_q (Q_move rfl) rfl rfl rfl ?_
        refine L_q (Q_move rfl) rfl rfl rfl ?_
        refine L_q (Q_move rfl) rfl rfl rfl ?_
        refine L_q ((Q_neq rfl rfl).as (v' := .bool false) (congrArg Value.bool (decide_eq_false (by first | omega | simp)))) rfl rfl rfl ?_
        first
          | refine L_q (Q_pickT rfl rfl) rfl rfl rfl ?_
          | refine L_q (Q_pickF rfl rfl) rfl rfl rfl ?_
          | refine L_q (Q_pickB rfl rfl rfl) rfl rfl rfl ?_
        refine JL_nil ?_
        repeat first
          | refine J_seq ?_
          | refine seqQ_normal ?_
          | refine J_condT rfl ?_
          | refine J_condF rfl ?_
          | refine J_block ?_
          | refine blockQ_normal ?_
          | refine J_exit ?_
          | refine seqQ_exit ?_
          | refine blockQ_hit ?_
          | refine blockQ_miss rfl ?_
          | refine J_skip ?_
          | refine J_ret ?_
          | refine seqQ_ret ?_
          | refine blockQ_ret ?_
          | refine loopQ_exit ?_
          | refine loopQ_ret ?_
          | refine J_label ?_
        repeat first
          | refine J_seq ?_
          | refine seqQ_normal ?_
          | refine J_condT rfl ?_
          | refine J_condF rfl ?_
          | refine J_block ?_
          | refine blockQ_normal ?_
          | refine J_exit ?_
          | refine seqQ_exit ?_
          | refine blockQ_hit ?_
          | refine blockQ_miss rfl ?_
          | refine J_skip ?_
          | refine J_ret ?_
          | refine seqQ_ret ?_
          | refine blockQ_ret ?_
          | refine loopQ_exit ?_
          | refine loopQ_ret ?_
          | refine J_label ?_
        refine J_region ?_
        refine L_q (Q_move rfl) rfl rfl rfl ?_
        refine L_q (Q_add rfl rfl (by first | exact IntWalk.i64_in _ (by omega) | exact IntWalk.u8_in _ (by omega) | exact IntWalk.u32_in _ (by omega) | exact IntWalk.u64_in _ (by omega) | rfl)) rfl rfl rfl ?_
        refine L_q (Q_assign rfl) rfl rfl rfl ?_
        refine JL_nil ?_
        repeat first
          | refine J_seq ?_
          | refine seqQ_normal ?_
          | refine J_condT rfl ?_
          | refine J_condF rfl ?_
          | refine J_block ?_
          | refine blockQ_normal ?_
          | refine J_exit ?_
          | refine seqQ_exit ?_
          | refine blockQ_hit ?_
          | refine blockQ_miss rfl ?_
          | refine J_skip ?_
          | refine J_ret ?_
          | refine seqQ_ret ?_
          | refine blockQ_ret ?_
          | refine loopQ_exit ?_
          | refine loopQ_ret ?_
          | refine J_label ?_
        exact loopQ_normal (k + 1, w, n, (doW a b l[k].body l[k].n).1, (doW a b l[k].body l[k].n).2.1, A', B') ⟨ht', by simp only; omega, by simp only; omega, hlen.1, hlen.2⟩ (by simp only; omega) ⟨rfl, rfl, rfl, rfl, rfl, trivial⟩ (Ent.refl _)
      have hsm : l[k].body.length ≤ 32768 := by omega
      have he : (doW a b l[k].body l[k].n).2.2 = 0 := doW_ok hsm
      rw [he] at hw
      by_cases hneg : l[k].n < 0
      · have ht' := write_whole ht (by omega) hsm (.inl hneg)
        repeat first
          | refine J_seq ?_
          | refine seqQ_normal ?_
          | refine J_condT rfl ?_
          | refine J_condF rfl ?_
          | refine J_block ?_
          | refine blockQ_normal ?_
          | refine J_exit ?_
          | refine seqQ_exit ?_
          | refine blockQ_hit ?_
          | refine blockQ_miss rfl ?_
          | refine J_skip ?_
          | refine J_ret ?_
          | refine seqQ_ret ?_
          | refine blockQ_ret ?_
          | refine loopQ_exit ?_
          | refine loopQ_ret ?_
          | refine J_label ?_
        refine J_drawH [3] [0, 1, 2, 3, 4, 5, 6, 7, 8, 9, 10, 12] (.quiet 0 (.quiet 1 (.quiet 2 (.quiet 3 (.quiet 4 (.quiet 5 (.quiet 6 (.quiet 7 (.quiet 8 (.quiet 9 (.quiet 10 (.loud 11 (.quiet 12 .done))))))))))))) Try.mixed (by kernel_rfl) (by kernel_rfl) (by repeat (first | exact retQ_noP | refine seqQ_noP ?_ | refine blockQ_noP ?_ | refine loopQ_noP ?_)) ?_
        refine S_q (Ent.re [3] rfl) rfl (Q_move rfl) rfl rfl rfl ?_
        refine S_q (Ent.re [3] rfl) rfl (Q_move rfl) rfl rfl rfl ?_
        refine S_q (Ent.re [3] rfl) rfl (Q_move rfl) rfl rfl rfl ?_
        refine S_q (Ent.re [3] rfl) rfl (Q_ixAt 0 k rfl rfl rfl rfl hlt rfl) rfl rfl rfl ?_
        refine S_q (Ent.re [3] rfl) rfl (Q_pfa rfl) rfl rfl rfl ?_
        refine S_q (Ent.re [3] rfl) rfl (Q_ldEAt 0 k 3 (v := str l[k].body) rfl rfl rfl rfl hlt (by decide) rfl) rfl rfl rfl ?_
        refine S_q (Ent.re [3] rfl) rfl (Q_move rfl) rfl rfl rfl ?_
        refine S_q (Ent.re [3] rfl) rfl (Q_move rfl) rfl rfl rfl ?_
        refine S_q (Ent.re [3] rfl) rfl (Q_ixAt 0 k rfl rfl rfl rfl hlt rfl) rfl rfl rfl ?_
        refine S_q (Ent.re [3] rfl) rfl (Q_pfa rfl) rfl rfl rfl ?_
        refine S_q (Ent.re [3] rfl) rfl (Q_ldEAt 0 k 1 (v := .int .i64 l[k].n) rfl rfl rfl rfl hlt (by decide) rfl) rfl rfl rfl ?_
        refine S_o rfl rfl rfl rfl (O_call [0,1,2] [3,4] hw rfl rfl ?_)
        (rintro _ _ ⟨A', B', rfl, rfl⟩; refine ⟨_, fun _ => ⟨Ent.reN [3] rfl, Ent.refl _⟩, ?_⟩)
        refine JS.norm ?_
        refine S_q (Ent.re [3] rfl) rfl (Q_assign rfl) rfl rfl rfl ?_
        refine S_nil ?_
        repeat first
          | refine J_seq ?_
          | refine seqQ_normal ?_
          | refine J_condT rfl ?_
          | refine J_condF rfl ?_
          | refine J_block ?_
          | refine blockQ_normal ?_
          | refine J_exit ?_
          | refine seqQ_exit ?_
          | refine blockQ_hit ?_
          | refine blockQ_miss rfl ?_
          | refine J_skip ?_
          | refine J_ret ?_
          | refine seqQ_ret ?_
          | refine blockQ_ret ?_
          | refine loopQ_exit ?_
          | refine loopQ_ret ?_
          | refine J_label ?_
        have hld := load_ok E p A' B' _ _ (Nat.le_trans hlen.1 (by decide)) (Nat.le_trans hlen.2 (by decide))
        rw [ht'.load.1, ht'.load.2] at hld
        repeat first
          | refine J_seq ?_
          | refine seqQ_normal ?_
          | refine J_condT rfl ?_
          | refine J_condF rfl ?_
          | refine J_block ?_
          | refine blockQ_normal ?_
          | refine J_exit ?_
          | refine seqQ_exit ?_
          | refine blockQ_hit ?_
          | refine blockQ_miss rfl ?_
          | refine J_skip ?_
          | refine J_ret ?_
          | refine seqQ_ret ?_
          | refine blockQ_ret ?_
          | refine loopQ_exit ?_
          | refine loopQ_ret ?_
          | refine J_label ?_
        refine J_drawH [3] [0, 1, 2, 3, 4, 5, 6, 7, 8, 9, 10, 11, 12, 13, 14, 15, 16, 17, 18, 19, 20, 21, 22, 23, 24] (.quiet 0 (.quiet 1 (.quiet 2 (.quiet 3 (.quiet 4 (.quiet 5 (.quiet 6 (.quiet 7 (.quiet 8 (.quiet 9 (.quiet 10 (.quiet 11 (.quiet 12 (.quiet 13 (.quiet 14 (.quiet 15 (.quiet 16 (.quiet 17 (.quiet 18 (.quiet 19 (.quiet 20 (.quiet 21 (.quiet 22 (.quiet 23 (.quiet 24 .done))))))))))))))))))))))))) Try.mixed (by kernel_rfl) (by kernel_rfl) (by repeat (first | exact retQ_noP | refine seqQ_noP ?_ | refine blockQ_noP ?_ | refine loopQ_noP ?_)) ?_
        refine S_q (Ent.re [3] rfl) rfl (Q_move rfl) rfl rfl rfl ?_
        refine S_q (Ent.re [3] rfl) rfl ((Q_eql rfl rfl).as (v' := .bool true) rfl) rfl rfl rfl ?_
        refine S_q (Ent.re [3] rfl) rfl (Q_move rfl) rfl rfl rfl ?_
        refine S_q (Ent.re [3] rfl) rfl (Q_move rfl) rfl rfl rfl ?_
        refine S_q (Ent.re [3] rfl) rfl (Q_move rfl) rfl rfl rfl ?_
        refine S_q (Ent.re [3] rfl) rfl (Q_ixAt 0 k rfl rfl rfl rfl hlt rfl) rfl rfl rfl ?_
        refine S_q (Ent.re [3] rfl) rfl (Q_pfa rfl) rfl rfl rfl ?_
        refine S_q (Ent.re [3] rfl) rfl (Q_ldEAt 0 k 1 (v := .int .i64 l[k].n) rfl rfl rfl rfl hlt (by decide) rfl) rfl rfl rfl ?_
        refine S_q (Ent.re [3] rfl) rfl ((Q_lss rfl rfl).as (v' := .bool true) (congrArg Value.bool (decide_eq_true hneg))) rfl rfl rfl ?_
        refine S_q (Ent.re [3] rfl) rfl (Q_move rfl) rfl rfl rfl ?_
        refine S_n (Ent.re [3] rfl) rfl rfl rfl rfl ?_
        refine S_n (Ent.re [3] rfl) rfl rfl rfl rfl ?_
        refine S_n (Ent.re [3] rfl) rfl rfl rfl rfl ?_
        refine S_n (Ent.re [3] rfl) rfl rfl rfl rfl ?_
        refine S_n (Ent.re [3] rfl) rfl rfl rfl rfl ?_
        refine S_n (Ent.re [3] rfl) rfl rfl rfl rfl ?_
        refine S_n (Ent.re [3] rfl) rfl rfl rfl rfl ?_
        refine S_n (Ent.re [3] rfl) rfl rfl rfl rfl ?_
        refine S_n (Ent.re [3] rfl) rfl rfl rfl rfl ?_
        refine S_n (Ent.re [3] rfl) rfl rfl rfl rfl ?_
        refine S_n (Ent.re [3] rfl) rfl rfl rfl rfl ?_
        refine S_n (Ent.re [3] rfl) rfl rfl rfl rfl ?_
        refine S_n (Ent.re [3] rfl) rfl rfl rfl rfl ?_
        first
          | refine S_q (Ent.re [3] rfl) rfl (Q_pickT rfl rfl) rfl rfl rfl ?_
          | refine S_q (Ent.re [3] rfl) rfl (Q_pickF rfl rfl) rfl rfl rfl ?_
          | refine S_q (Ent.re [3] rfl) rfl (Q_pickB rfl rfl rfl) rfl rfl rfl ?_
        first
          | refine S_q (Ent.re [3] rfl) rfl (Q_pickT rfl rfl) rfl rfl rfl ?_
          | refine S_q (Ent.re [3] rfl) rfl (Q_pickF rfl rfl) rfl rfl rfl ?_
          | refine S_q (Ent.re [3] rfl) rfl (Q_pickB rfl rfl rfl) rfl rfl rfl ?_
        refine S_nil ?_
        repeat first
          | refine J_seq ?_
          | refine seqQ_normal ?_
          | refine J_condT rfl ?_
          | refine J_condF rfl ?_
          | refine J_block ?_
          | refine blockQ_normal ?_
          | refine J_exit ?_
          | refine seqQ_exit ?_
          | refine blockQ_hit ?_
          | refine blockQ_miss rfl ?_
          | refine J_skip ?_
          | refine J_ret ?_
          | refine seqQ_ret ?_
          | refine blockQ_ret ?_
          | refine loopQ_exit ?_
          | refine loopQ_ret ?_
          | refine J_label ?_
        repeat first
          | refine J_seq ?_
          | refine seqQ_normal ?_
          | refine J_condT rfl ?_
          | refine J_condF rfl ?_
          | refine J_block ?_
          | refine blockQ_normal ?_
          | refine J_exit ?_
          | refine seqQ_exit ?_
          | refine blockQ_hit ?_
          | refine blockQ_miss rfl ?_
          | refine J_skip ?_
          | refine J_ret ?_
          | refine seqQ_ret ?_
          | refine blockQ_ret ?_
          | refine loopQ_exit ?_
          | refine loopQ_ret ?_
          | refine J_label ?_
        refine J_region ?_
        refine L_q (Q_move rfl) rfl rfl rfl ?_
        refine L_q (Q_move rfl) rfl rfl rfl ?_
        refine L_q (Q_ixAt 3 k rfl rfl rfl rfl hlt rfl) rfl rfl rfl ?_
        refine L_q (Q_pfa rfl) rfl rfl rfl ?_
        refine L_q (Q_ldEAt 3 k 3 (v := str l[k].body) rfl rfl rfl rfl hlt (by decide) rfl) rfl rfl rfl ?_
        refine L_q (Q_move rfl) rfl rfl rfl ?_
        refine L_q (Q_add rfl rfl (by first | exact IntWalk.i64_in _ (by omega) | exact IntWalk.u8_in _ (by omega) | exact IntWalk.u32_in _ (by omega) | exact IntWalk.u64_in _ (by omega) | rfl)) rfl rfl rfl ?_
        refine L_q (Q_assign rfl) rfl rfl rfl ?_
        refine L_q (Q_assign rfl) rfl rfl rfl ?_
        refine JL_nil ?_
        repeat first
          | refine J_seq ?_
          | refine seqQ_normal ?_
          | refine J_condT rfl ?_
          | refine J_condF rfl ?_
          | refine J_block ?_
          | refine blockQ_normal ?_
          | refine J_exit ?_
          | refine seqQ_exit ?_
          | refine blockQ_hit ?_
          | refine blockQ_miss rfl ?_
          | refine J_skip ?_
          | refine J_ret ?_
          | refine seqQ_ret ?_
          | refine blockQ_ret ?_
          | refine loopQ_exit ?_
          | refine loopQ_ret ?_
          | refine J_label ?_
        repeat first
          | refine J_seq ?_
          | refine seqQ_normal ?_
          | refine J_condT rfl ?_
          | refine J_condF rfl ?_
          | refine J_block ?_
          | refine blockQ_normal ?_
          | refine J_exit ?_
          | refine seqQ_exit ?_
          | refine blockQ_hit ?_
          | refine blockQ_miss rfl ?_
          | refine J_skip ?_
          | refine J_ret ?_
          | refine seqQ_ret ?_
          | refine blockQ_ret ?_
          | refine loopQ_exit ?_
          | refine loopQ_ret ?_
          | refine J_label ?_
        refine J_region ?_
        refine L_q (Q_move rfl) rfl rfl rfl ?_
        refine L_o rfl rfl rfl (O_call [0,1,2] [3,4] hld rfl rfl ?_)
        rintro _ _ ⟨rfl, rfl⟩
        refine JL.norm ?_
        refine L_q (Q_move rfl) rfl rfl rfl ?_
        refine L_q (Q_extract (v := str l[k].body) rfl rfl) rfl rfl rfl ?_
        refine L_q (Q_extract (v := .int .i64 (((n + 1) : Nat) : Int)) rfl rfl) rfl rfl rfl ?_
        refine L_q (Q_assign rfl) rfl rfl rfl ?_
        refine L_q (Q_assign rfl) rfl rfl rfl ?_
        refine JL_nil ?_
        repeat first
          | refine J_seq ?_
          | refine seqQ_normal ?_
          | refine J_condT rfl ?_
          | refine J_condF rfl ?_
          | refine J_block ?_
          | refine blockQ_normal ?_
          | refine J_exit ?_
          | refine seqQ_exit ?_
          | refine blockQ_hit ?_
          | refine blockQ_miss rfl ?_
          | refine J_skip ?_
          | refine J_ret ?_
          | refine seqQ_ret ?_
          | refine blockQ_ret ?_
          | refine loopQ_exit ?_
          | refine loopQ_ret ?_
          | refine J_label ?_
        repeat first
          | refine J_seq ?_
          | refine seqQ_normal ?_
          | refine J_condT rfl ?_
          | refine J_condF rfl ?_
          | refine J_block ?_
          | refine blockQ_normal ?_
          | refine J_exit ?_
          | refine seqQ_exit ?_
          | refine blockQ_hit ?_
          | refine blockQ_miss rfl ?_
          | refine J_skip ?_
          | refine J_ret ?_
          | refine seqQ_ret ?_
          | refine blockQ_ret ?_
          | refine loopQ_exit ?_
          | refine loopQ_ret ?_
          | refine J_label ?_
        refine J_region ?_
        refine L_q (Q_move rfl) rfl rfl rfl ?_
        refine L_q (Q_move rfl) rfl rfl rfl ?_
        refine L_q ((Q_sneq rfl rfl).as (v' := .bool false) (congrArg Value.bool (decide_eq_false (by simp)))) rfl rfl rfl ?_
        refine L_q (Q_move rfl) rfl rfl rfl ?_
        refine L_q (Q_move rfl) rfl rfl rfl ?_
        refine L_q (Q_move rfl) rfl rfl rfl ?_
        refine L_q ((Q_neq rfl rfl).as (v' := .bool false) (congrArg Value.bool (decide_eq_false (by first | omega | simp)))) rfl rfl rfl ?_
        first
          | refine L_q (Q_pickT rfl rfl) rfl rfl rfl ?_
          | refine L_q (Q_pickF rfl rfl) rfl rfl rfl ?_
          | refine L_q (Q_pickB rfl rfl rfl) rfl rfl rfl ?_
        refine JL_nil ?_
        repeat first
          | refine J_seq ?_
          | refine seqQ_normal ?_
          | refine J_condT rfl ?_
          | refine J_condF rfl ?_
          | refine J_block ?_
          | refine blockQ_normal ?_
          | refine J_exit ?_
          | refine seqQ_exit ?_
          | refine blockQ_hit ?_
          | refine blockQ_miss rfl ?_
          | refine J_skip ?_
          | refine J_ret ?_
          | refine seqQ_ret ?_
          | refine blockQ_ret ?_
          | refine loopQ_exit ?_
          | refine loopQ_ret ?_
          | refine J_label ?_
        repeat first
          | refine J_seq ?_
          | refine seqQ_normal ?_
          | refine J_condT rfl ?_
          | refine J_condF rfl ?_
          | refine J_block ?_
          | refine blockQ_normal ?_
          | refine J_exit ?_
          | refine seqQ_exit ?_
          | refine blockQ_hit ?_
          | refine blockQ_miss rfl ?_
          | refine J_skip ?_
          | refine J_ret ?_
          | refine seqQ_ret ?_
          | refine blockQ_ret ?_
          | refine loopQ_exit ?_
          | refine loopQ_ret ?_
          | refine J_label ?_
        refine J_region ?_
        refine L_q (Q_move rfl) rfl rfl rfl ?_
        refine L_q (Q_add rfl rfl (by first | exact IntWalk.i64_in _ (by omega) | exact IntWalk.u8_in _ (by omega) | exact IntWalk.u32_in _ (by omega) | exact IntWalk.u64_in _ (by omega) | rfl)) rfl rfl rfl ?_
        refine L_q (Q_assign rfl) rfl rfl rfl ?_
        refine JL_nil ?_
        repeat first
          | refine J_seq ?_
          | refine seqQ_normal ?_
          | refine J_condT rfl ?_
          | refine J_condF rfl ?_
          | refine J_block ?_
          | refine blockQ_normal ?_
          | refine J_exit ?_
          | refine seqQ_exit ?_
          | refine blockQ_hit ?_
          | refine blockQ_miss rfl ?_
          | refine J_skip ?_
          | refine J_ret ?_
          | refine seqQ_ret ?_
          | refine blockQ_ret ?_
          | refine loopQ_exit ?_
          | refine loopQ_ret ?_
          | refine J_label ?_
        exact loopQ_normal (k + 1, l[k].body, (n + 1), (doW a b l[k].body l[k].n).1, (doW a b l[k].body l[k].n).2.1, A', B') ⟨ht', by simp only; omega, by simp only; omega, hlen.1, hlen.2⟩ (by simp only; omega) ⟨rfl, rfl, rfl, rfl, rfl, trivial⟩ (Ent.refl _)
      by_cases hfull : (l[k].body.length : Int) ≤ l[k].n - 12
      · have ht' := write_whole ht (by omega) hsm (.inr hfull)
        repeat first
          | refine J_seq ?_
          | refine seqQ_normal ?_
          | refine J_condT rfl ?_
          | refine J_condF rfl ?_
          | refine J_block ?_
          | refine blockQ_normal ?_
          | refine J_exit ?_
          | refine seqQ_exit ?_
          | refine blockQ_hit ?_
          | refine blockQ_miss rfl ?_
          | refine J_skip ?_
          | refine J_ret ?_
          | refine seqQ_ret ?_
          | refine blockQ_ret ?_
          | refine loopQ_exit ?_
          | refine loopQ_ret ?_
          | refine J_label ?_
        refine J_drawH [3] [0, 1, 2, 3, 4, 5, 6, 7, 8, 9, 10, 12] (.quiet 0 (.quiet 1 (.quiet 2 (.quiet 3 (.quiet 4 (.quiet 5 (.quiet 6 (.quiet 7 (.quiet 8 (.quiet 9 (.quiet 10 (.loud 11 (.quiet 12 .done))))))))))))) Try.mixed (by kernel_rfl) (by kernel_rfl) (by repeat (first | exact retQ_noP | refine seqQ_noP ?_ | refine blockQ_noP ?_ | refine loopQ_noP ?_)) ?_
        refine S_q (Ent.re [3] rfl) rfl (Q_move rfl) rfl rfl rfl ?_
        refine S_q (Ent.re [3] rfl) rfl (Q_move rfl) rfl rfl rfl ?_
        refine S_q (Ent.re [3] rfl) rfl (Q_move rfl) rfl rfl rfl ?_
        refine S_q (Ent.re [3] rfl) rfl (Q_ixAt 0 k rfl rfl rfl rfl hlt rfl) rfl rfl rfl ?_
        refine S_q (Ent.re [3] rfl) rfl (Q_pfa rfl) rfl rfl rfl ?_
        refine S_q (Ent.re [3] rfl) rfl (Q_ldEAt 0 k 3 (v := str l[k].body) rfl rfl rfl rfl hlt (by decide) rfl) rfl rfl rfl ?_
        refine S_q (Ent.re [3] rfl) rfl (Q_move rfl) rfl rfl rfl ?_
        refine S_q (Ent.re [3] rfl) rfl (Q_move rfl) rfl rfl rfl ?_
        refine S_q (Ent.re [3] rfl) rfl (Q_ixAt 0 k rfl rfl rfl rfl hlt rfl) rfl rfl rfl ?_
        refine S_q (Ent.re [3] rfl) rfl (Q_pfa rfl) rfl rfl rfl ?_
        refine S_q (Ent.re [3] rfl) rfl (Q_ldEAt 0 k 1 (v := .int .i64 l[k].n) rfl rfl rfl rfl hlt (by decide) rfl) rfl rfl rfl ?_
        refine S_o rfl rfl rfl rfl (O_call [0,1,2] [3,4] hw rfl rfl ?_)
        (rintro _ _ ⟨A', B', rfl, rfl⟩; refine ⟨_, fun _ => ⟨Ent.reN [3] rfl, Ent.refl _⟩, ?_⟩)
        refine JS.norm ?_
        refine S_q (Ent.re [3] rfl) rfl (Q_assign rfl) rfl rfl rfl ?_
        refine S_nil ?_
        repeat first
          | refine J_seq ?_
          | refine seqQ_normal ?_
          | refine J_condT rfl ?_
          | refine J_condF rfl ?_
          | refine J_block ?_
          | refine blockQ_normal ?_
          | refine J_exit ?_
          | refine seqQ_exit ?_
          | refine blockQ_hit ?_
          | refine blockQ_miss rfl ?_
          | refine J_skip ?_
          | refine J_ret ?_
          | refine seqQ_ret ?_
          | refine blockQ_ret ?_
          | refine loopQ_exit ?_
          | refine loopQ_ret ?_
          | refine J_label ?_
        have hld := load_ok E p A' B' _ _ (Nat.le_trans hlen.1 (by decide)) (Nat.le_trans hlen.2 (by decide))
        rw [ht'.load.1, ht'.load.2] at hld
        repeat first
          | refine J_seq ?_
          | refine seqQ_normal ?_
          | refine J_condT rfl ?_
          | refine J_condF rfl ?_
          | refine J_block ?_
          | refine blockQ_normal ?_
          | refine J_exit ?_
          | refine seqQ_exit ?_
          | refine blockQ_hit ?_
          | refine blockQ_miss rfl ?_
          | refine J_skip ?_
          | refine J_ret ?_
          | refine seqQ_ret ?_
          | refine blockQ_ret ?_
          | refine loopQ_exit ?_
          | refine loopQ_ret ?_
          | refine J_label ?_
        refine J_drawH [3] [0, 1, 2, 3, 4, 5, 6, 7, 8, 9, 10, 11, 12, 13, 14, 15, 16, 17, 18, 19, 20, 21, 22, 23, 24] (.quiet 0 (.quiet 1 (.quiet 2 (.quiet 3 (.quiet 4 (.quiet 5 (.quiet 6 (.quiet 7 (.quiet 8 (.quiet 9 (.quiet 10 (.quiet 11 (.quiet 12 (.quiet 13 (.quiet 14 (.quiet 15 (.quiet 16 (.quiet 17 (.quiet 18 (.quiet 19 (.quiet 20 (.quiet 21 (.quiet 22 (.quiet 23 (.quiet 24 .done))))))))))))))))))))))))) Try.mixed (by kernel_rfl) (by kernel_rfl) (by repeat (first | exact retQ_noP | refine seqQ_noP ?_ | refine blockQ_noP ?_ | refine loopQ_noP ?_)) ?_
        refine S_q (Ent.re [3] rfl) rfl (Q_move rfl) rfl rfl rfl ?_
        refine S_q (Ent.re [3] rfl) rfl ((Q_eql rfl rfl).as (v' := .bool true) rfl) rfl rfl rfl ?_
        refine S_q (Ent.re [3] rfl) rfl (Q_move rfl) rfl rfl rfl ?_
        refine S_q (Ent.re [3] rfl) rfl (Q_move rfl) rfl rfl rfl ?_
        refine S_q (Ent.re [3] rfl) rfl (Q_move rfl) rfl rfl rfl ?_
        refine S_q (Ent.re [3] rfl) rfl (Q_ixAt 0 k rfl rfl rfl rfl hlt rfl) rfl rfl rfl ?_
        refine S_q (Ent.re [3] rfl) rfl (Q_pfa rfl) rfl rfl rfl ?_
        refine S_q (Ent.re [3] rfl) rfl (Q_ldEAt 0 k 1 (v := .int .i64 l[k].n) rfl rfl rfl rfl hlt (by decide) rfl) rfl rfl rfl ?_
        refine S_q (Ent.re [3] rfl) rfl ((Q_lss rfl rfl).as (v' := .bool false) (congrArg Value.bool (decide_eq_false hneg))) rfl rfl rfl ?_
        refine S_q (Ent.re [3] rfl) rfl (Q_move rfl) rfl rfl rfl ?_
        refine S_q (Ent.re [3] rfl) rfl (Q_move rfl) rfl rfl rfl ?_
        refine S_q (Ent.re [3] rfl) rfl (Q_move rfl) rfl rfl rfl ?_
        refine S_q (Ent.re [3] rfl) rfl (Q_ixAt 0 k rfl rfl rfl rfl hlt rfl) rfl rfl rfl ?_
        refine S_q (Ent.re [3] rfl) rfl (Q_pfa rfl) rfl rfl rfl ?_
        refine S_q (Ent.re [3] rfl) rfl (Q_ldEAt 0 k 1 (v := .int .i64 l[k].n) rfl rfl rfl rfl hlt (by decide) rfl) rfl rfl rfl ?_
        refine S_q (Ent.re [3] rfl) rfl (Q_sub rfl rfl (by first | exact IntWalk.i64_in _ (by omega) | exact IntWalk.u8_in _ (by omega) | exact IntWalk.u32_in _ (by omega) | exact IntWalk.u64_in _ (by omega) | rfl)) rfl rfl rfl ?_
        refine S_q (Ent.re [3] rfl) rfl (Q_move rfl) rfl rfl rfl ?_
        refine S_q (Ent.re [3] rfl) rfl (Q_move rfl) rfl rfl rfl ?_
        refine S_q (Ent.re [3] rfl) rfl (Q_ixAt 0 k rfl rfl rfl rfl hlt rfl) rfl rfl rfl ?_
        refine S_q (Ent.re [3] rfl) rfl (Q_pfa rfl) rfl rfl rfl ?_
        refine S_q (Ent.re [3] rfl) rfl (Q_ldEAt 0 k 3 (v := str l[k].body) rfl rfl rfl rfl hlt (by decide) rfl) rfl rfl rfl ?_
        refine S_q (Ent.re [3] rfl) rfl (Q_slen rfl) rfl rfl rfl ?_
        refine S_q (Ent.re [3] rfl) rfl ((Q_geq rfl rfl).as (v' := .bool true) (congrArg Value.bool (decide_eq_true hfull))) rfl rfl rfl ?_
        first
          | refine S_q (Ent.re [3] rfl) rfl (Q_pickT rfl rfl) rfl rfl rfl ?_
          | refine S_q (Ent.re [3] rfl) rfl (Q_pickF rfl rfl) rfl rfl rfl ?_
          | refine S_q (Ent.re [3] rfl) rfl (Q_pickB rfl rfl rfl) rfl rfl rfl ?_
        first
          | refine S_q (Ent.re [3] rfl) rfl (Q_pickT rfl rfl) rfl rfl rfl ?_
          | refine S_q (Ent.re [3] rfl) rfl (Q_pickF rfl rfl) rfl rfl rfl ?_
          | refine S_q (Ent.re [3] rfl) rfl (Q_pickB rfl rfl rfl) rfl rfl rfl ?_
        refine S_nil ?_
        repeat first
          | refine J_seq ?_
          | refine seqQ_normal ?_
          | refine J_condT rfl ?_
          | refine J_condF rfl ?_
          | refine J_block ?_
          | refine blockQ_normal ?_
          | refine J_exit ?_
          | refine seqQ_exit ?_
          | refine blockQ_hit ?_
          | refine blockQ_miss rfl ?_
          | refine J_skip ?_
          | refine J_ret ?_
          | refine seqQ_ret ?_
          | refine blockQ_ret ?_
          | refine loopQ_exit ?_
          | refine loopQ_ret ?_
          | refine J_label ?_
        repeat first
          | refine J_seq ?_
          | refine seqQ_normal ?_
          | refine J_condT rfl ?_
          | refine J_condF rfl ?_
          | refine J_block ?_
          | refine blockQ_normal ?_
          | refine J_exit ?_
          | refine seqQ_exit ?_
          | refine blockQ_hit ?_
          | refine blockQ_miss rfl ?_
          | refine J_skip ?_
          | refine J_ret ?_
          | refine seqQ_ret ?_
          | refine blockQ_ret ?_
          | refine loopQ_exit ?_
          | refine loopQ_ret ?_
          | refine J_label ?_
        refine J_region ?_
        refine L_q (Q_move rfl) rfl rfl rfl ?_
        refine L_q (Q_move rfl) rfl rfl rfl ?_
        refine L_q (Q_ixAt 3 k rfl rfl rfl rfl hlt rfl) rfl rfl rfl ?_
        refine L_q (Q_pfa rfl) rfl rfl rfl ?_
        refine L_q (Q_ldEAt 3 k 3 (v := str l[k].body) rfl rfl rfl rfl hlt (by decide) rfl) rfl rfl rfl ?_
        refine L_q (Q_move rfl) rfl rfl rfl ?_
        refine L_q (Q_add rfl rfl (by first | exact IntWalk.i64_in _ (by omega) | exact IntWalk.u8_in _ (by omega) | exact IntWalk.u32_in _ (by omega) | exact IntWalk.u64_in _ (by omega) | rfl)) rfl rfl rfl ?_
        refine L_q (Q_assign rfl) rfl rfl rfl ?_
        refine L_q (Q_assign rfl) rfl rfl rfl ?_
        refine JL_nil ?_
        repeat first
          | refine J_seq ?_
          | refine seqQ_normal ?_
          | refine J_condT rfl ?_
          | refine J_condF rfl ?_
          | refine J_block ?_
          | refine blockQ_normal ?_
          | refine J_exit ?_
          | refine seqQ_exit ?_
          | refine blockQ_hit ?_
          | refine blockQ_miss rfl ?_
          | refine J_skip ?_
          | refine J_ret ?_
          | refine seqQ_ret ?_
          | refine blockQ_ret ?_
          | refine loopQ_exit ?_
          | refine loopQ_ret ?_
          | refine J_label ?_
        repeat first
          | refine J_seq ?_
          | refine seqQ_normal ?_
          | refine J_condT rfl ?_
          | refine J_condF rfl ?_
          | refine J_block ?_
          | refine blockQ_normal ?_
          | refine J_exit ?_
          | refine seqQ_exit ?_
          | refine blockQ_hit ?_
          | refine blockQ_miss rfl ?_
          | refine J_skip ?_
          | refine J_ret ?_
          | refine seqQ_ret ?_
          | refine blockQ_ret ?_
          | refine loopQ_exit ?_
          | refine loopQ_ret ?_
          | refine J_label ?_
        refine J_region ?_
        refine L_q (Q_move rfl) rfl rfl rfl ?_
        refine L_o rfl rfl rfl (O_call [0,1,2] [3,4] hld rfl rfl ?_)
        rintro _ _ ⟨rfl, rfl⟩
        refine JL.norm ?_
        refine L_q (Q_move rfl) rfl rfl rfl ?_
        refine L_q (Q_extract (v := str l[k].body) rfl rfl) rfl rfl rfl ?_
        refine L_q (Q_extract (v := .int .i64 (((n + 1) : Nat) : Int)) rfl rfl) rfl rfl rfl ?_
        refine L_q (Q_assign rfl) rfl rfl rfl ?_
        refine L_q (Q_assign rfl) rfl rfl rfl ?_
        refine JL_nil ?_
        repeat first
          | refine J_seq ?_
          | refine seqQ_normal ?_
          | refine J_condT rfl ?_
          | refine J_condF rfl ?_
          | refine J_block ?_
          | refine blockQ_normal ?_
          | refine J_exit ?_
          | refine seqQ_exit ?_
          | refine blockQ_hit ?_
          | refine blockQ_miss rfl ?_
          | refine J_skip ?_
          | refine J_ret ?_
          | refine seqQ_ret ?_
          | refine blockQ_ret ?_
          | refine loopQ_exit ?_
          | refine loopQ_ret ?_
          | refine J_label ?_
        repeat first
          | refine J_seq ?_
          | refine seqQ_normal ?_
          | refine J_condT rfl ?_
          | refine J_condF rfl ?_
          | refine J_block ?_
          | refine blockQ_normal ?_
          | refine J_exit ?_
          | refine seqQ_exit ?_
          | refine blockQ_hit ?_
          | refine blockQ_miss rfl ?_
          | refine J_skip ?_
          | refine J_ret ?_
          | refine seqQ_ret ?_
          | refine blockQ_ret ?_
          | refine loopQ_exit ?_
          | refine loopQ_ret ?_
          | refine J_label ?_
        refine J_region ?_
        refine L_q (Q_move rfl) rfl rfl rfl ?_
        refine L_q (Q_move rfl) rfl rfl rfl ?_
        refine L_q ((Q_sneq rfl rfl).as (v' := .bool false) (congrArg Value.bool (decide_eq_false (by simp)))) rfl rfl rfl ?_
        refine L_q (Q_move rfl) rfl rfl rfl ?_
        refine L_q (Q_move rfl) rfl rfl rfl ?_
        refine L_q (Q_move rfl) rfl rfl rfl ?_
        refine L_q ((Q_neq rfl rfl).as (v' := .bool false) (congrArg Value.bool (decide_eq_false (by first | omega | simp)))) rfl rfl rfl ?_
        first
          | refine L_q (Q_pickT rfl rfl) rfl rfl rfl ?_
          | refine L_q (Q_pickF rfl rfl) rfl rfl rfl ?_
          | refine L_q (Q_pickB rfl rfl rfl) rfl rfl rfl ?_
        refine JL_nil ?_
        repeat first
          | refine J_seq ?_
          | refine seqQ_normal ?_
          | refine J_condT rfl ?_
          | refine J_condF rfl ?_
          | refine J_block ?_
          | refine blockQ_normal ?_
          | refine J_exit ?_
          | refine seqQ_exit ?_
          | refine blockQ_hit ?_
          | refine blockQ_miss rfl ?_
          | refine J_skip ?_
          | refine J_ret ?_
          | refine seqQ_ret ?_
          | refine blockQ_ret ?_
          | refine loopQ_exit ?_
          | refine loopQ_ret ?_
          | refine J_label ?_
        repeat first
          | refine J_seq ?_
          | refine seqQ_normal ?_
          | refine J_condT rfl ?_
          | refine J_condF rfl ?_
          | refine J_block ?_
          | refine blockQ_normal ?_
          | refine J_exit ?_
          | refine seqQ_exit ?_
          | refine blockQ_hit ?_
          | refine blockQ_miss rfl ?_
          | refine J_skip ?_
          | refine J_ret ?_
          | refine seqQ_ret ?_
          | refine blockQ_ret ?_
          | refine loopQ_exit ?_
          | refine loopQ_ret ?_
          | refine J_label ?_
        refine J_region ?_
        refine L_q (Q_move rfl) rfl rfl rfl ?_
        refine L_q (Q_add rfl rfl (by first | exact IntWalk.i64_in _ (by omega) | exact IntWalk.u8_in _ (by omega) | exact IntWalk.u32_in _ (by omega) | exact IntWalk.u64_in _ (by omega) | rfl)) rfl rfl rfl ?_
        refine L_q (Q_assign rfl) rfl rfl rfl ?_
        refine JL_nil ?_
        repeat first
          | refine J_seq ?_
          | refine seqQ_normal ?_
          | refine J_condT rfl ?_
          | refine J_condF rfl ?_
          | refine J_block ?_
          | refine blockQ_normal ?_
          | refine J_exit ?_
          | refine seqQ_exit ?_
          | refine blockQ_hit ?_
          | refine blockQ_miss rfl ?_
          | refine J_skip ?_
          | refine J_ret ?_
          | refine seqQ_ret ?_
          | refine blockQ_ret ?_
          | refine loopQ_exit ?_
          | refine loopQ_ret ?_
          | refine J_label ?_
        exact loopQ_normal (k + 1, l[k].body, (n + 1), (doW a b l[k].body l[k].n).1, (doW a b l[k].body l[k].n).2.1, A', B') ⟨ht', by simp only; omega, by simp only; omega, hlen.1, hlen.2⟩ (by simp only; omega) ⟨rfl, rfl, rfl, rfl, rfl, trivial⟩ (Ent.refl _)
      · have ht' := write_cut ht hsm (upto := l[k].n) (by unfold wholeN; omega)
        repeat first
          | refine J_seq ?_
          | refine seqQ_normal ?_
          | refine J_condT rfl ?_
          | refine J_condF rfl ?_
          | refine J_block ?_
          | refine blockQ_normal ?_
          | refine J_exit ?_
          | refine seqQ_exit ?_
          | refine blockQ_hit ?_
          | refine blockQ_miss rfl ?_
          | refine J_skip ?_
          | refine J_ret ?_
          | refine seqQ_ret ?_
          | refine blockQ_ret ?_
          | refine loopQ_exit ?_
          | refine loopQ_ret ?_
          | refine J_label ?_
        refine J_drawH [3] [0, 1, 2, 3, 4, 5, 6, 7, 8, 9, 10, 12] (.quiet 0 (.quiet 1 (.quiet 2 (.quiet 3 (.quiet 4 (.quiet 5 (.quiet 6 (.quiet 7 (.quiet 8 (.quiet 9 (.quiet 10 (.loud 11 (.quiet 12 .done))))))))))))) Try.mixed (by kernel_rfl) (by kernel_rfl) (by repeat (first | exact retQ_noP | refine seqQ_noP ?_ | refine blockQ_noP ?_ | refine loopQ_noP ?_)) ?_
        refine S_q (Ent.re [3] rfl) rfl (Q_move rfl) rfl rfl rfl ?_
        refine S_q (Ent.re [3] rfl) rfl (Q_move rfl) rfl rfl rfl ?_
        refine S_q (Ent.re [3] rfl) rfl (Q_move rfl) rfl rfl rfl ?_
        refine S_q (Ent.re [3] rfl) rfl (Q_ixAt 0 k rfl rfl rfl rfl hlt rfl) rfl rfl rfl ?_
        refine S_q (Ent.re [3] rfl) rfl (Q_pfa rfl) rfl rfl rfl ?_
        refine S_q (Ent.re [3] rfl) rfl (Q_ldEAt 0 k 3 (v := str l[k].body) rfl rfl rfl rfl hlt (by decide) rfl) rfl rfl rfl ?_
        refine S_q (Ent.re [3] rfl) rfl (Q_move rfl) rfl rfl rfl ?_
        refine S_q (Ent.re [3] rfl) rfl (Q_move rfl) rfl rfl rfl ?_
        refine S_q (Ent.re [3] rfl) rfl (Q_ixAt 0 k rfl rfl rfl rfl hlt rfl) rfl rfl rfl ?_
        refine S_q (Ent.re [3] rfl) rfl (Q_pfa rfl) rfl rfl rfl ?_
        refine S_q (Ent.re [3] rfl) rfl (Q_ldEAt 0 k 1 (v := .int .i64 l[k].n) rfl rfl rfl rfl hlt (by decide) rfl) rfl rfl rfl ?_
        refine S_o rfl rfl rfl rfl (O_call [0,1,2] [3,4] hw rfl rfl ?_)
        (rintro _ _ ⟨A', B', rfl, rfl⟩; refine ⟨_, fun _ => ⟨Ent.reN [3] rfl, Ent.refl _⟩, ?_⟩)
        refine JS.norm ?_
        refine S_q (Ent.re [3] rfl) rfl (Q_assign rfl) rfl rfl rfl ?_
        refine S_nil ?_
        repeat first
          | refine J_seq ?_
          | refine seqQ_normal ?_
          | refine J_condT rfl ?_
          | refine J_condF rfl ?_
          | refine J_block ?_
          | refine blockQ_normal ?_
          | refine J_exit ?_
          | refine seqQ_exit ?_
          | refine blockQ_hit ?_
          | refine blockQ_miss rfl ?_
          | refine J_skip ?_
          | refine J_ret ?_
          | refine seqQ_ret ?_
          | refine blockQ_ret ?_
          | refine loopQ_exit ?_
          | refine loopQ_ret ?_
          | refine J_label ?_
        have hld := load_ok E p A' B' _ _ (Nat.le_trans hlen.1 (by decide)) (Nat.le_trans hlen.2 (by decide))
        rw [ht'.load.1, ht'.load.2] at hld
        repeat first
          | refine J_seq ?_
          | refine seqQ_normal ?_
          | refine J_condT rfl ?_
          | refine J_condF rfl ?_
          | refine J_block ?_
          | refine blockQ_normal ?_
          | refine J_exit ?_
          | refine seqQ_exit ?_
          | refine blockQ_hit ?_
          | refine blockQ_miss rfl ?_
          | refine J_skip ?_
          | refine J_ret ?_
          | refine seqQ_ret ?_
          | refine blockQ_ret ?_
          | refine loopQ_exit ?_
          | refine loopQ_ret ?_
          | refine J_label ?_
        refine J_drawH [3] [0, 1, 2, 3, 4, 5, 6, 7, 8, 9, 10, 11, 12, 13, 14, 15, 16, 17, 18, 19, 20, 21, 22, 23, 24] (.quiet 0 (.quiet 1 (.quiet 2 (.quiet 3 (.quiet 4 (.quiet 5 (.quiet 6 (.quiet 7 (.quiet 8 (.quiet 9 (.quiet 10 (.quiet 11 (.quiet 12 (.quiet 13 (.quiet 14 (.quiet 15 (.quiet 16 (.quiet 17 (.quiet 18 (.quiet 19 (.quiet 20 (.quiet 21 (.quiet 22 (.quiet 23 (.quiet 24 .done))))))))))))))))))))))))) Try.mixed (by kernel_rfl) (by kernel_rfl) (by repeat (first | exact retQ_noP | refine seqQ_noP ?_ | refine blockQ_noP ?_ | refine loopQ_noP ?_)) ?_
        refine S_q (Ent.re [3] rfl) rfl (Q_move rfl) rfl rfl rfl ?_
        refine S_q (Ent.re [3] rfl) rfl ((Q_eql rfl rfl).as (v' := .bool true) rfl) rfl rfl rfl ?_
        refine S_q (Ent.re [3] rfl) rfl (Q_move rfl) rfl rfl rfl ?_
        refine S_q (Ent.re [3] rfl) rfl (Q_move rfl) rfl rfl rfl ?_
        refine S_q (Ent.re [3] rfl) rfl (Q_move rfl) rfl rfl rfl ?_
        refine S_q (Ent.re [3] rfl) rfl (Q_ixAt 0 k rfl rfl rfl rfl hlt rfl) rfl rfl rfl ?_
        refine S_q (Ent.re [3] rfl) rfl (Q_pfa rfl) rfl rfl rfl ?_
        refine S_q (Ent.re [3] rfl) rfl (Q_ldEAt 0 k 1 (v := .int .i64 l[k].n) rfl rfl rfl rfl hlt (by decide) rfl) rfl rfl rfl ?_
        refine S_q (Ent.re [3] rfl) rfl ((Q_lss rfl rfl).as (v' := .bool false) (congrArg Value.bool (decide_eq_false hneg))) rfl rfl rfl ?_
        refine S_q (Ent.re [3] rfl) rfl (Q_move rfl) rfl rfl rfl ?_
        refine S_q (Ent.re [3] rfl) rfl (Q_move rfl) rfl rfl rfl ?_
        refine S_q (Ent.re [3] rfl) rfl (Q_move rfl) rfl rfl rfl ?_
        refine S_q (Ent.re [3] rfl) rfl (Q_ixAt 0 k rfl rfl rfl rfl hlt rfl) rfl rfl rfl ?_
        refine S_q (Ent.re [3] rfl) rfl (Q_pfa rfl) rfl rfl rfl ?_
        refine S_q (Ent.re [3] rfl) rfl (Q_ldEAt 0 k 1 (v := .int .i64 l[k].n) rfl rfl rfl rfl hlt (by decide) rfl) rfl rfl rfl ?_
        refine S_q (Ent.re [3] rfl) rfl (Q_sub rfl rfl (by first | exact IntWalk.i64_in _ (by omega) | exact IntWalk.u8_in _ (by omega) | exact IntWalk.u32_in _ (by omega) | exact IntWalk.u64_in _ (by omega) | rfl)) rfl rfl rfl ?_
        refine S_q (Ent.re [3] rfl) rfl (Q_move rfl) rfl rfl rfl ?_
        refine S_q (Ent.re [3] rfl) rfl (Q_move rfl) rfl rfl rfl ?_
        refine S_q (Ent.re [3] rfl) rfl (Q_ixAt 0 k rfl rfl rfl rfl hlt rfl) rfl rfl rfl ?_
        refine S_q (Ent.re [3] rfl) rfl (Q_pfa rfl) rfl rfl rfl ?_
        refine S_q (Ent.re [3] rfl) rfl (Q_ldEAt 0 k 3 (v := str l[k].body) rfl rfl rfl rfl hlt (by decide) rfl) rfl rfl rfl ?_
        refine S_q (Ent.re [3] rfl) rfl (Q_slen rfl) rfl rfl rfl ?_
        refine S_q (Ent.re [3] rfl) rfl ((Q_geq rfl rfl).as (v' := .bool false) (congrArg Value.bool (decide_eq_false hfull))) rfl rfl rfl ?_
        first
          | refine S_q (Ent.re [3] rfl) rfl (Q_pickT rfl rfl) rfl rfl rfl ?_
          | refine S_q (Ent.re [3] rfl) rfl (Q_pickF rfl rfl) rfl rfl rfl ?_
          | refine S_q (Ent.re [3] rfl) rfl (Q_pickB rfl rfl rfl) rfl rfl rfl ?_
        first
          | refine S_q (Ent.re [3] rfl) rfl (Q_pickT rfl rfl) rfl rfl rfl ?_
          | refine S_q (Ent.re [3] rfl) rfl (Q_pickF rfl rfl) rfl rfl rfl ?_
          | refine S_q (Ent.re [3] rfl) rfl (Q_pickB rfl rfl rfl) rfl rfl rfl ?_
        refine S_nil ?_
        repeat first
          | refine J_seq ?_
          | refine seqQ_normal ?_
          | refine J_condT rfl ?_
          | refine J_condF rfl ?_
          | refine J_block ?_
          | refine blockQ_normal ?_
          | refine J_exit ?_
          | refine seqQ_exit ?_
          | refine blockQ_hit ?_
          | refine blockQ_miss rfl ?_
          | refine J_skip ?_
          | refine J_ret ?_
          | refine seqQ_ret ?_
          | refine blockQ_ret ?_
          | refine loopQ_exit ?_
          | refine loopQ_ret ?_
          | refine J_label ?_
        repeat first
          | refine J_seq ?_
          | refine seqQ_normal ?_
          | refine J_condT rfl ?_
          | refine J_condF rfl ?_
          | refine J_block ?_
          | refine blockQ_normal ?_
          | refine J_exit ?_
          | refine seqQ_exit ?_
          | refine blockQ_hit ?_
          | refine blockQ_miss rfl ?_
          | refine J_skip ?_
          | refine J_ret ?_
          | refine seqQ_ret ?_
          | refine blockQ_ret ?_
          | refine loopQ_exit ?_
          | refine loopQ_ret ?_
          | refine J_label ?_
        refine J_region ?_
        refine L_q (Q_move rfl) rfl rfl rfl ?_
        refine L_o rfl rfl rfl (O_call [0,1,2] [3,4] hld rfl rfl ?_)
        rintro _ _ ⟨rfl, rfl⟩
        refine JL.norm ?_
        refine L_q (Q_move rfl) rfl rfl rfl ?_
        refine L_q (Q_extract (v := str w) rfl rfl) rfl rfl rfl ?_
        refine L_q (Q_extract (v := .int .i64 ((n : Nat) : Int)) rfl rfl) rfl rfl rfl ?_
        refine L_q (Q_assign rfl) rfl rfl rfl ?_
        refine L_q (Q_assign rfl) rfl rfl rfl ?_
        refine JL_nil ?_
        repeat first
          | refine J_seq ?_
          | refine seqQ_normal ?_
          | refine J_condT rfl ?_
          | refine J_condF rfl ?_
          | refine J_block ?_
          | refine blockQ_normal ?_
          | refine J_exit ?_
          | refine seqQ_exit ?_
          | refine blockQ_hit ?_
          | refine blockQ_miss rfl ?_
          | refine J_skip ?_
          | refine J_ret ?_
          | refine seqQ_ret ?_
          | refine blockQ_ret ?_
          | refine loopQ_exit ?_
          | refine loopQ_ret ?_
          | refine J_label ?_
        repeat first
          | refine J_seq ?_
          | refine seqQ_normal ?_
          | refine J_condT rfl ?_
          | refine J_condF rfl ?_
          | refine J_block ?_
          | refine blockQ_normal ?_
          | refine J_exit ?_
          | refine seqQ_exit ?_
          | refine blockQ_hit ?_
          | refine blockQ_miss rfl ?_
          | refine J_skip ?_
          | refine J_ret ?_
          | refine seqQ_ret ?_
          | refine blockQ_ret ?_
          | refine loopQ_exit ?_
          | refine loopQ_ret ?_
          | refine J_label ?_
        refine J_region ?_
        refine L_q (Q_move rfl) rfl rfl rfl ?_
        refine L_q (Q_move rfl) rfl rfl rfl ?_
        refine L_q ((Q_sneq rfl rfl).as (v' := .bool false) (congrArg Value.bool (decide_eq_false (by simp)))) rfl rfl rfl ?_
        refine L_q (Q_move rfl) rfl rfl rfl ?_
        refine L_q (Q_move rfl) rfl rfl rfl ?_
        refine L_q (Q_move rfl) rfl rfl rfl ?_
        refine L_q ((Q_neq rfl rfl).as (v' := .bool false) (congrArg Value.bool (decide_eq_false (by first | omega | simp)))) rfl rfl rfl ?_
        first
          | refine L_q (Q_pickT rfl rfl) rfl rfl rfl ?_
          | refine L_q (Q_pickF rfl rfl) rfl rfl rfl ?_
          | refine L_q (Q_pickB rfl rfl rfl) rfl rfl rfl ?_
        refine JL_nil ?_
        repeat first
          | refine J_seq ?_
          | refine seqQ_normal ?_
          | refine J_condT rfl ?_
          | refine J_condF rfl ?_
          | refine J_block ?_
          | refine blockQ_normal ?_
          | refine J_exit ?_
          | refine seqQ_exit ?_
          | refine blockQ_hit ?_
          | refine blockQ_miss rfl ?_
          | refine J_skip ?_
          | refine J_ret ?_
          | refine seqQ_ret ?_
          | refine blockQ_ret ?_
          | refine loopQ_exit ?_
          | refine loopQ_ret ?_
          | refine J_label ?_
        repeat first
          | refine J_seq ?_
          | refine seqQ_normal ?_
          | refine J_condT rfl ?_
          | refine J_condF rfl ?_
          | refine J_block ?_
          | refine blockQ_normal ?_
          | refine J_exit ?_
          | refine seqQ_exit ?_
          | refine blockQ_hit ?_
          | refine blockQ_miss rfl ?_
          | refine J_skip ?_
          | refine J_ret ?_
          | refine seqQ_ret ?_
          | refine blockQ_ret ?_
          | refine loopQ_exit ?_
          | refine loopQ_ret ?_
          | refine J_label ?_
        refine J_region ?_
        refine L_q (Q_move rfl) rfl rfl rfl ?_
        refine L_q (Q_add rfl rfl (by first | exact IntWalk.i64_in _ (by omega) | exact IntWalk.u8_in _ (by omega) | exact IntWalk.u32_in _ (by omega) | exact IntWalk.u64_in _ (by omega) | rfl)) rfl rfl rfl ?_
        refine L_q (Q_assign rfl) rfl rfl rfl ?_
        refine JL_nil ?_
        repeat first
          | refine J_seq ?_
          | refine seqQ_normal ?_
          | refine J_condT rfl ?_
          | refine J_condF rfl ?_
          | refine J_block ?_
          | refine blockQ_normal ?_
          | refine J_exit ?_
          | refine seqQ_exit ?_
          | refine blockQ_hit ?_
          | refine blockQ_miss rfl ?_
          | refine J_skip ?_
          | refine J_ret ?_
          | refine seqQ_ret ?_
          | refine blockQ_ret ?_
          | refine loopQ_exit ?_
          | refine loopQ_ret ?_
          | refine J_label ?_
        exact loopQ_normal (k + 1, w, n, (doW a b l[k].body l[k].n).1, (doW a b l[k].body l[k].n).2.1, A', B') ⟨ht', by simp only; omega, by simp only; omega, hlen.1, hlen.2⟩ (by simp only; omega) ⟨rfl, rfl, rfl, rfl, rfl, trivial⟩ (Ent.refl _)
    · repeat first
        | refine J_seq ?_
        | refine seqQ_normal ?_
        | refine J_condT rfl ?_
        | refine J_condF rfl ?_
        | refine J_block ?_
        | refine blockQ_normal ?_
        | refine J_exit ?_
        | refine seqQ_exit ?_
        | refine blockQ_hit ?_
        | refine blockQ_miss rfl ?_
        | refine J_skip ?_
        | refine J_ret ?_
        | refine seqQ_ret ?_
        | refine blockQ_ret ?_
        | refine loopQ_exit ?_
        | refine loopQ_ret ?_
        | refine J_label ?_
      refine J_region ?_
      refine L_o rfl rfl rfl (O_call [] [0,1,2,3,4] (awake_ok E) rfl rfl ?_)
      rintro _ _ ⟨rfl, rfl⟩
      refine JL.norm ?_
      refine L_q (Q_assign rfl) rfl rfl rfl ?_
      refine JL_nil ?_
      repeat first
        | refine J_seq ?_
        | refine seqQ_normal ?_
        | refine J_condT rfl ?_
        | refine J_condF rfl ?_
        | refine J_block ?_
        | refine blockQ_normal ?_
        | refine J_exit ?_
        | refine seqQ_exit ?_
        | refine blockQ_hit ?_
        | refine blockQ_miss rfl ?_
        | refine J_skip ?_
        | refine J_ret ?_
        | refine seqQ_ret ?_
        | refine blockQ_ret ?_
        | refine loopQ_exit ?_
        | refine loopQ_ret ?_
        | refine J_label ?_
      exact retQ_ret _ [] (.cons (RV_tmp rfl) .nil) ⟨rfl, rfl⟩ (Ent.re [4] rfl)
end Go.Proofs
