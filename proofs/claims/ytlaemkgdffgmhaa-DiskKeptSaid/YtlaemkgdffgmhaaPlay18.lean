/- The law DiskPlays: its walk. -/
import Derived.Test.YtlaemkgdffgmhaaFew18
set_option autoImplicit false
namespace Go.Proofs
open Go.SL
attribute [local irreducible] J JL QOp JOp seqQ blockQ loopQ retQ slc cel hex star pur stars Does RV Ent pAt
theorem plays_calls (E : World) (S : SV) (l : List Ac) (hl : ∀ a ∈ l, a.keep < 2 ^ 64) : Does Try.prog E 3 [S.v] [slc tAct false S l] fun v L => v = .bool true ∧ L = [] := by
  have hf := few_ok E S l
  refine Does.of Try.func3 rfl Try.ntmps3 rfl rfl fun F => ?_
  refine J.norm ?_
  cases hb : fewB l with
  | false =>
    rw [hb] at hf
    repeat first
      | refine J_seq ?_
      | refine seqQ_normal ?_
      | refine J_condT rfl ?_
      | refine J_condF rfl ?_
      | refine J_block ?_
      | refine blockQ_normal ?_
      | refine J_exit ?_
      | refine seqQ_exit ?_
      | refine blockQ_hit ?_
      | refine blockQ_miss rfl ?_
      | refine J_skip ?_
      | refine J_ret ?_
      | refine seqQ_ret ?_
      | refine blockQ_ret ?_
      | refine loopQ_exit ?_
      | refine loopQ_ret ?_
      | refine J_label ?_
    refine J_region ?_
    refine L_q (Q_assign rfl) rfl rfl rfl ?_
    refine JL_nil ?_
    repeat first
      | refine J_seq ?_
      | refine seqQ_normal ?_
      | refine J_condT rfl ?_
      | refine J_condF rfl ?_
      | refine J_block ?_
      | refine blockQ_normal ?_
      | refine J_exit ?_
      | refine seqQ_exit ?_
      | refine blockQ_hit ?_
      | refine blockQ_miss rfl ?_
      | refine J_skip ?_
      | refine J_ret ?_
      | refine seqQ_ret ?_
      | refine blockQ_ret ?_
      | refine loopQ_exit ?_
      | refine loopQ_ret ?_
      | refine J_label ?_
    repeat first
      | refine J_seq ?_
      | refine seqQ_normal ?_
      | refine J_condT rfl ?_
      | refine J_condF rfl ?_
      | refine J_block ?_
      | refine blockQ_normal ?_
      | refine J_exit ?_
      | refine seqQ_exit ?_
      | refine blockQ_hit ?_
      | refine blockQ_miss rfl ?_
      | refine J_skip ?_
      | refine J_ret ?_
      | refine seqQ_ret ?_
      | refine blockQ_ret ?_
      | refine loopQ_exit ?_
      | refine loopQ_ret ?_
      | refine J_label ?_
    refine J_region ?_
    refine L_q (Q_move rfl) rfl rfl rfl ?_
    refine L_o rfl rfl rfl (O_call [0] [1] hf rfl rfl ?_)
    rintro _ _ ⟨rfl, rfl⟩
    refine JL.norm ?_
    first
      | refine L_q (Q_notD rfl) rfl rfl rfl ?_
      | refine L_q (Q_not rfl) rfl rfl rfl ?_
    refine JL_nil ?_
    repeat first
      | refine J_seq ?_
      | refine seqQ_normal ?_
      | refine J_condT rfl ?_
      | refine J_condF rfl ?_
      | refine J_block ?_
      | refine blockQ_normal ?_
      | refine J_exit ?_
      | refine seqQ_exit ?_
      | refine blockQ_hit ?_
      | refine blockQ_miss rfl ?_
      | refine J_skip ?_
      | refine J_ret ?_
      | refine seqQ_ret ?_
      | refine blockQ_ret ?_
      | refine loopQ_exit ?_
      | refine loopQ_ret ?_
      | refine J_label ?_
    repeat first
      | refine J_seq ?_
      | refine seqQ_normal ?_
      | refine J_condT rfl ?_
      | refine J_condF rfl ?_
      | refine J_block ?_
      | refine blockQ_normal ?_
      | refine J_exit ?_
      | refine seqQ_exit ?_
      | refine blockQ_hit ?_
      | refine blockQ_miss rfl ?_
      | refine J_skip ?_
      | refine J_ret ?_
      | refine seqQ_ret ?_
      | refine blockQ_ret ?_
      | refine loopQ_exit ?_
      | refine loopQ_ret ?_
      | refine J_label ?_
    refine J_region ?_
    refine L_o rfl rfl rfl (O_call [] [0,1] (awake_ok E) rfl rfl ?_)
    rintro _ _ ⟨rfl, rfl⟩
    refine JL.norm ?_
    refine L_q (Q_assign rfl) rfl rfl rfl ?_
    refine JL_nil ?_
    repeat first
      | refine J_seq ?_
      | refine seqQ_normal ?_
      | refine J_condT rfl ?_
      | refine J_condF rfl ?_
      | refine J_block ?_
      | refine blockQ_normal ?_
      | refine J_exit ?_
      | refine seqQ_exit ?_
      | refine blockQ_hit ?_
      | refine blockQ_miss rfl ?_
      | refine J_skip ?_
      | refine J_ret ?_
      | refine seqQ_ret ?_
      | refine blockQ_ret ?_
      | refine loopQ_exit ?_
      | refine loopQ_ret ?_
      | refine J_label ?_
    exact retQ_ret _ [] (.cons (RV_tmp rfl) .nil) ⟨rfl, rfl⟩ (Ent.re [1] rfl)
  | true =>
    rw [hb] at hf
    have ht := (few_text hb).2
    have hl40 := (few_text hb).1
    repeat first
      | refine J_seq ?_
      | refine seqQ_normal ?_
      | refine J_condT rfl ?_
      | refine J_condF rfl ?_
      | refine J_block ?_
      | refine blockQ_normal ?_
      | refine J_exit ?_
      | refine seqQ_exit ?_
      | refine blockQ_hit ?_
      | refine blockQ_miss rfl ?_
      | refine J_skip ?_
      | refine J_ret ?_
      | refine seqQ_ret ?_
      | refine blockQ_ret ?_
      | refine loopQ_exit ?_
      | refine loopQ_ret ?_
      | refine J_label ?_
    refine J_region ?_
    refine L_q (Q_assign rfl) rfl rfl rfl ?_
    refine JL_nil ?_
    repeat first
      | refine J_seq ?_
      | refine seqQ_normal ?_
      | refine J_condT rfl ?_
      | refine J_condF rfl ?_
      | refine J_block ?_
      | refine blockQ_normal ?_
      | refine J_exit ?_
      | refine seqQ_exit ?_
      | refine blockQ_hit ?_
      | refine blockQ_miss rfl ?_
      | refine J_skip ?_
      | refine J_ret ?_
      | refine seqQ_ret ?_
      | refine blockQ_ret ?_
      | refine loopQ_exit ?_
      | refine loopQ_ret ?_
      | refine J_label ?_
    repeat first
      | refine J_seq ?_
      | refine seqQ_normal ?_
      | refine J_condT rfl ?_
      | refine J_condF rfl ?_
      | refine J_block ?_
      | refine blockQ_normal ?_
      | refine J_exit ?_
      | refine seqQ_exit ?_
      | refine blockQ_hit ?_
      | refine blockQ_miss rfl ?_
      | refine J_skip ?_
      | refine J_ret ?_
      | refine seqQ_ret ?_
      | refine blockQ_ret ?_
      | refine loopQ_exit ?_
      | refine loopQ_ret ?_
      | refine J_label ?_
    refine J_region ?_
    refine L_q (Q_move rfl) rfl rfl rfl ?_
    refine L_o rfl rfl rfl (O_call [0] [1] hf rfl rfl ?_)
    rintro _ _ ⟨rfl, rfl⟩
    refine JL.norm ?_
    first
      | refine L_q (Q_notD rfl) rfl rfl rfl ?_
      | refine L_q (Q_not rfl) rfl rfl rfl ?_
    refine JL_nil ?_
    repeat first
      | refine J_seq ?_
      | refine seqQ_normal ?_
      | refine J_condT rfl ?_
      | refine J_condF rfl ?_
      | refine J_block ?_
      | refine blockQ_normal ?_
      | refine J_exit ?_
      | refine seqQ_exit ?_
      | refine blockQ_hit ?_
      | refine blockQ_miss rfl ?_
      | refine J_skip ?_
      | refine J_ret ?_
      | refine seqQ_ret ?_
      | refine blockQ_ret ?_
      | refine loopQ_exit ?_
      | refine loopQ_ret ?_
      | refine J_label ?_
    repeat first
      | refine J_seq ?_
      | refine seqQ_normal ?_
      | refine J_condT rfl ?_
      | refine J_condF rfl ?_
      | refine J_block ?_
      | refine blockQ_normal ?_
      | refine J_exit ?_
      | refine seqQ_exit ?_
      | refine blockQ_hit ?_
      | refine blockQ_miss rfl ?_
      | refine J_skip ?_
      | refine J_ret ?_
      | refine seqQ_ret ?_
      | refine blockQ_ret ?_
      | refine loopQ_exit ?_
      | refine loopQ_ret ?_
      | refine J_label ?_
    refine J_region ?_
    refine L_o rfl rfl rfl (O_call [] [0,1] (new_ok E) rfl rfl ?_)
    rintro _ _ ⟨p, rfl, rfl⟩
    refine JL.norm ?_
    refine L_q (Q_build rfl) rfl rfl rfl ?_
    refine L_o rfl rfl rfl (O_alloc fun b4 => ?_)
    refine L_q (Q_assign rfl) rfl rfl rfl ?_
    first
      | refine L_s rfl rfl (O_stW 0 rfl rfl rfl rfl ?_)
      | refine L_s rfl rfl (O_stW 1 rfl rfl rfl rfl ?_)
      | refine L_s rfl rfl (O_stW 2 rfl rfl rfl rfl ?_)
      | refine L_s rfl rfl (O_stW 3 rfl rfl rfl rfl ?_)
      | refine L_s rfl rfl (O_stW 4 rfl rfl rfl rfl ?_)
    refine JL.norm ?_
    refine JL_nil ?_
    repeat first
      | refine J_seq ?_
      | refine seqQ_normal ?_
      | refine J_condT rfl ?_
      | refine J_condF rfl ?_
      | refine J_block ?_
      | refine blockQ_normal ?_
      | refine J_exit ?_
      | refine seqQ_exit ?_
      | refine blockQ_hit ?_
      | refine blockQ_miss rfl ?_
      | refine J_skip ?_
      | refine J_ret ?_
      | refine seqQ_ret ?_
      | refine blockQ_ret ?_
      | refine loopQ_exit ?_
      | refine loopQ_ret ?_
      | refine J_label ?_
    repeat first
      | refine J_seq ?_
      | refine seqQ_normal ?_
      | refine J_condT rfl ?_
      | refine J_condF rfl ?_
      | refine J_block ?_
      | refine blockQ_normal ?_
      | refine J_exit ?_
      | refine seqQ_exit ?_
      | refine blockQ_hit ?_
      | refine blockQ_miss rfl ?_
      | refine J_skip ?_
      | refine J_ret ?_
      | refine seqQ_ret ?_
      | refine blockQ_ret ?_
      | refine loopQ_exit ?_
      | refine loopQ_ret ?_
      | refine J_label ?_
    refine J_region ?_
    refine L_q (Q_assign rfl) rfl rfl rfl ?_
    refine JL_nil ?_
    repeat first
      | refine J_seq ?_
      | refine seqQ_normal ?_
      | refine J_condT rfl ?_
      | refine J_condF rfl ?_
      | refine J_block ?_
      | refine blockQ_normal ?_
      | refine J_exit ?_
      | refine seqQ_exit ?_
      | refine blockQ_hit ?_
      | refine blockQ_miss rfl ?_
      | refine J_skip ?_
      | refine J_ret ?_
      | refine seqQ_ret ?_
      | refine blockQ_ret ?_
      | refine loopQ_exit ?_
      | refine loopQ_ret ?_
      | refine J_label ?_
    refine J_loop (fun k => k ≤ l.length) (fun k => [(0, S.v), (3, .pointer (some ⟨p, 0, none⟩)), (4, .pointer (some ⟨b4, 0, none⟩)), (5, .int .i64 (k : Int))])
      (fun k => [cel b4 [str (plays (l.take k)).b, .int .i64 ((plays (l.take k)).s : Int)] 28, diskAt p (plays (l.take k)), slc tAct false S l, F]) (fun k => l.length - k) 0 (by simp) ⟨rfl, rfl, rfl, rfl, trivial⟩ (Ent.refl _) ?_
    intro k hk
    have hd := plays_ok (l.take k)
    repeat first
      | refine J_seq ?_
      | refine seqQ_normal ?_
      | refine J_condT rfl ?_
      | refine J_condF rfl ?_
      | refine J_block ?_
      | refine blockQ_normal ?_
      | refine J_exit ?_
      | refine seqQ_exit ?_
      | refine blockQ_hit ?_
      | refine blockQ_miss rfl ?_
      | refine J_skip ?_
      | refine J_ret ?_
      | refine seqQ_ret ?_
      | refine blockQ_ret ?_
      | refine loopQ_exit ?_
      | refine loopQ_ret ?_
      | refine J_label ?_
    refine J_region ?_
    refine L_q (Q_move rfl) rfl rfl rfl ?_
    refine L_q (Q_move rfl) rfl rfl rfl ?_
    first
      | refine L_q (Q_lenAt 0 rfl rfl) rfl rfl rfl ?_
      | refine L_q (Q_lenAt 1 rfl rfl) rfl rfl rfl ?_
      | refine L_q (Q_lenAt 2 rfl rfl) rfl rfl rfl ?_
      | refine L_q (Q_lenAt 3 rfl rfl) rfl rfl rfl ?_
      | refine L_q (Q_lenAt 4 rfl rfl) rfl rfl rfl ?_
    refine L_q (Q_lss rfl rfl) rfl rfl rfl ?_
    refine JL_nil ?_
    repeat first
      | refine J_seq ?_
      | refine seqQ_normal ?_
      | refine J_condT rfl ?_
      | refine J_condF rfl ?_
      | refine J_block ?_
      | refine blockQ_normal ?_
      | refine J_exit ?_
      | refine seqQ_exit ?_
      | refine blockQ_hit ?_
      | refine blockQ_miss rfl ?_
      | refine J_skip ?_
      | refine J_ret ?_
      | refine seqQ_ret ?_
      | refine blockQ_ret ?_
      | refine loopQ_exit ?_
      | refine loopQ_ret ?_
      | refine J_label ?_
    refine J_condD rfl (fun h => ?_) (fun h => ?_)
    · have hlt : k < l.length := by omega
      have hk2 := hl l[k] (List.getElem_mem hlt)
      have ht2 := ht l[k] (List.getElem_mem hlt)
      have hsucc := plays_succ l k hlt
      generalize hdd : plays (l.take k) = d at hd hsucc ⊢
      have ho := do_ok E p d l[k] hk2 hd
      have hr := rdo_ok E d l[k] hk2 hd ht2
      rw [← hsucc] at ho hr
      generalize hee : (doD d l[k]).2 = e at ho hr
      generalize hd2 : plays (l.take (k + 1)) = d2 at ho hr hsucc
      repeat first
        | refine J_seq ?_
        | refine seqQ_normal ?_
        | refine J_condT rfl ?_
        | refine J_condF rfl ?_
        | refine J_block ?_
        | refine blockQ_normal ?_
        | refine J_exit ?_
        | refine seqQ_exit ?_
        | refine blockQ_hit ?_
        | refine blockQ_miss rfl ?_
        | refine J_skip ?_
        | refine J_ret ?_
        | refine seqQ_ret ?_
        | refine blockQ_ret ?_
        | refine loopQ_exit ?_
        | refine loopQ_ret ?_
        | refine J_label ?_
      refine J_drawH [0,2] [0, 1, 2, 3, 4, 6, 7, 8, 11] (.quiet 0 (.quiet 1 (.quiet 2 (.quiet 3 (.quiet 4 (.both 5 (.quiet 6 (.quiet 7 (.quiet 8 (.loud 9 (.loud 10 (.quiet 11 .done)))))) 9 (.loud 5 (.quiet 6 (.quiet 7 (.quiet 8 (.loud 10 (.quiet 11 .done)))))))))))) Try.mixed (by kernel_rfl) (by kernel_rfl) (by repeat (first | exact retQ_noP | refine seqQ_noP ?_ | refine blockQ_noP ?_ | refine loopQ_noP ?_)) ?_
      first
        | refine S_q (Ent.re [0,2] rfl) rfl (Q_ldA 0 rfl rfl rfl) rfl rfl rfl ?_
        | refine S_q (Ent.re [0,2] rfl) rfl (Q_ldA 1 rfl rfl rfl) rfl rfl rfl ?_
        | refine S_q (Ent.re [0,2] rfl) rfl (Q_ldA 2 rfl rfl rfl) rfl rfl rfl ?_
        | refine S_q (Ent.re [0,2] rfl) rfl (Q_ldA 3 rfl rfl rfl) rfl rfl rfl ?_
        | refine S_q (Ent.re [0,2] rfl) rfl (Q_ldA 4 rfl rfl rfl) rfl rfl rfl ?_
      refine S_q (Ent.re [0,2] rfl) rfl (Q_move rfl) rfl rfl rfl ?_
      refine S_q (Ent.re [0,2] rfl) rfl (Q_move rfl) rfl rfl rfl ?_
      refine S_q (Ent.re [0,2] rfl) rfl (Q_ixAt 1 k rfl rfl rfl rfl hlt rfl) rfl rfl rfl ?_
      refine S_q (Ent.re [0,2] rfl) rfl (Q_ldEAAt 1 k 0 (vs := tAct.enc l[k]) rfl rfl rfl rfl hlt (by decide) rfl) rfl rfl rfl ?_
      refine S_both ?_ ?_
      · refine S_o rfl rfl rfl rfl (O_call [] [0,1,2,3] hr rfl rfl ?_)
        (rintro _ _ ⟨rfl, rfl⟩; refine ⟨_, fun _ => ⟨Ent.reN [0,2] rfl, Ent.refl _⟩, ?_⟩)
        refine JS.norm ?_
        refine S_q (Ent.re [0,2] rfl) rfl (Q_move rfl) rfl rfl rfl ?_
        refine S_q (Ent.re [0,2] rfl) rfl (Q_extract (v := dkV d2) rfl rfl) rfl rfl rfl ?_
        refine S_q (Ent.re [0,2] rfl) rfl (Q_extract (v := .int .i64 e) rfl rfl) rfl rfl rfl ?_
        refine S_o rfl rfl rfl rfl (O_alloc fun b6 => ⟨_, fun _ => ⟨Ent.reN [1,3] rfl, Ent.refl _⟩, ?_⟩)
        refine JS.norm ?_
        first
          | refine S_s rfl rfl rfl (O_stW 0 rfl rfl rfl rfl ⟨_, fun _ => ⟨Ent.reN [1,3] rfl, Ent.refl _⟩, ?_⟩)
          | refine S_s rfl rfl rfl (O_stW 1 rfl rfl rfl rfl ⟨_, fun _ => ⟨Ent.reN [1,3] rfl, Ent.refl _⟩, ?_⟩)
          | refine S_s rfl rfl rfl (O_stW 2 rfl rfl rfl rfl ⟨_, fun _ => ⟨Ent.reN [1,3] rfl, Ent.refl _⟩, ?_⟩)
          | refine S_s rfl rfl rfl (O_stW 3 rfl rfl rfl rfl ⟨_, fun _ => ⟨Ent.reN [1,3] rfl, Ent.refl _⟩, ?_⟩)
          | refine S_s rfl rfl rfl (O_stW 4 rfl rfl rfl rfl ⟨_, fun _ => ⟨Ent.reN [1,3] rfl, Ent.refl _⟩, ?_⟩)
        refine JS.norm ?_
        refine S_q (Ent.re [1,3] rfl) rfl (Q_assign rfl) rfl rfl rfl ?_
        refine S_nil ?_
        repeat first
          | refine J_seq ?_
          | refine seqQ_normal ?_
          | refine J_condT rfl ?_
          | refine J_condF rfl ?_
          | refine J_block ?_
          | refine blockQ_normal ?_
          | refine J_exit ?_
          | refine seqQ_exit ?_
          | refine blockQ_hit ?_
          | refine blockQ_miss rfl ?_
          | refine J_skip ?_
          | refine J_ret ?_
          | refine seqQ_ret ?_
          | refine blockQ_ret ?_
          | refine loopQ_exit ?_
          | refine loopQ_ret ?_
          | refine J_label ?_
        repeat first
          | refine J_seq ?_
          | refine seqQ_normal ?_
          | refine J_condT rfl ?_
          | refine J_condF rfl ?_
          | refine J_block ?_
          | refine blockQ_normal ?_
          | refine J_exit ?_
          | refine seqQ_exit ?_
          | refine blockQ_hit ?_
          | refine blockQ_miss rfl ?_
          | refine J_skip ?_
          | refine J_ret ?_
          | refine seqQ_ret ?_
          | refine blockQ_ret ?_
          | refine loopQ_exit ?_
          | refine loopQ_ret ?_
          | refine J_label ?_
        refine J_region ?_
        first
          | refine L_q (Q_ldA 0 rfl rfl rfl) rfl rfl rfl ?_
          | refine L_q (Q_ldA 1 rfl rfl rfl) rfl rfl rfl ?_
          | refine L_q (Q_ldA 2 rfl rfl rfl) rfl rfl rfl ?_
          | refine L_q (Q_ldA 3 rfl rfl rfl) rfl rfl rfl ?_
          | refine L_q (Q_ldA 4 rfl rfl rfl) rfl rfl rfl ?_
        first
          | refine L_s rfl rfl (O_stW 0 rfl rfl rfl rfl ?_)
          | refine L_s rfl rfl (O_stW 1 rfl rfl rfl rfl ?_)
          | refine L_s rfl rfl (O_stW 2 rfl rfl rfl rfl ?_)
          | refine L_s rfl rfl (O_stW 3 rfl rfl rfl rfl ?_)
          | refine L_s rfl rfl (O_stW 4 rfl rfl rfl rfl ?_)
        refine JL.norm ?_
        refine JL_nil ?_
        repeat first
          | refine J_seq ?_
          | refine seqQ_normal ?_
          | refine J_condT rfl ?_
          | refine J_condF rfl ?_
          | refine J_block ?_
          | refine blockQ_normal ?_
          | refine J_exit ?_
          | refine seqQ_exit ?_
          | refine blockQ_hit ?_
          | refine blockQ_miss rfl ?_
          | refine J_skip ?_
          | refine J_ret ?_
          | refine seqQ_ret ?_
          | refine blockQ_ret ?_
          | refine loopQ_exit ?_
          | refine loopQ_ret ?_
          | refine J_label ?_
        repeat first
          | refine J_seq ?_
          | refine seqQ_normal ?_
          | refine J_condT rfl ?_
          | refine J_condF rfl ?_
          | refine J_block ?_
          | refine blockQ_normal ?_
          | refine J_exit ?_
          | refine seqQ_exit ?_
          | refine blockQ_hit ?_
          | refine blockQ_miss rfl ?_
          | refine J_skip ?_
          | refine J_ret ?_
          | refine seqQ_ret ?_
          | refine blockQ_ret ?_
          | refine loopQ_exit ?_
          | refine loopQ_ret ?_
          | refine J_label ?_
        refine J_drawH [1,3] [0, 1, 2, 3, 4, 6, 7, 8, 9, 11, 12, 13, 14, 15, 16, 18, 19, 20, 21] (.quiet 0 (.quiet 1 (.quiet 2 (.quiet 3 (.quiet 4 (.quiet 6 (.loud 5 (.quiet 7 (.quiet 8 (.quiet 9 (.quiet 11 (.quiet 12 (.loud 10 (.quiet 13 (.quiet 14 (.quiet 15 (.quiet 16 (.quiet 18 (.quiet 19 (.loud 17 (.quiet 20 (.quiet 21 .done)))))))))))))))))))))) Try.mixed (by kernel_rfl) (by kernel_rfl) (by repeat (first | exact retQ_noP | refine seqQ_noP ?_ | refine blockQ_noP ?_ | refine loopQ_noP ?_)) ?_
        refine S_q (Ent.re [1,3] rfl) rfl (Q_move rfl) rfl rfl rfl ?_
        refine S_q (Ent.re [1,3] rfl) rfl (Q_move rfl) rfl rfl rfl ?_
        refine S_q (Ent.re [1,3] rfl) rfl (Q_move rfl) rfl rfl rfl ?_
        refine S_q (Ent.re [1,3] rfl) rfl (Q_ixAt 1 k rfl rfl rfl rfl hlt rfl) rfl rfl rfl ?_
        refine S_q (Ent.re [1,3] rfl) rfl (Q_ldEAAt 1 k 0 (vs := tAct.enc l[k]) rfl rfl rfl rfl hlt (by decide) rfl) rfl rfl rfl ?_
        refine S_q (Ent.re [1,3] rfl) rfl (Q_move rfl) rfl rfl rfl ?_
        refine S_o rfl rfl rfl rfl (O_call [2] [0,1,3,4] ho rfl rfl ?_)
        (rintro _ _ ⟨rfl, rfl⟩; refine ⟨_, fun _ => ⟨Ent.reN [2,3] rfl, Ent.refl _⟩, ?_⟩)
        refine JS.norm ?_
        refine S_q (Ent.re [2,3] rfl) rfl ((Q_neq rfl rfl).as (v' := .bool false) (congrArg Value.bool (decide_eq_false (by simp)))) rfl rfl rfl ?_
        refine S_q (Ent.re [2,3] rfl) rfl (Q_move rfl) rfl rfl rfl ?_
        refine S_q (Ent.re [2,3] rfl) rfl (Q_move rfl) rfl rfl rfl ?_
        first
          | refine S_q (Ent.re [2,3] rfl) rfl (Q_fa0 rfl) rfl rfl rfl ?_
          | refine S_q (Ent.re [2,3] rfl) rfl (Q_fa rfl rfl) rfl rfl rfl ?_
          | refine S_q (Ent.re [2,3] rfl) rfl (Q_pfa rfl) rfl rfl rfl ?_
        first
          | refine S_q (Ent.re [2,3] rfl) rfl (Q_ld 0 rfl rfl rfl rfl) rfl rfl rfl ?_
          | refine S_q (Ent.re [2,3] rfl) rfl (Q_ld 1 rfl rfl rfl rfl) rfl rfl rfl ?_
          | refine S_q (Ent.re [2,3] rfl) rfl (Q_ld 2 rfl rfl rfl rfl) rfl rfl rfl ?_
          | refine S_q (Ent.re [2,3] rfl) rfl (Q_ld 3 rfl rfl rfl rfl) rfl rfl rfl ?_
          | refine S_q (Ent.re [2,3] rfl) rfl (Q_ld 4 rfl rfl rfl rfl) rfl rfl rfl ?_
        refine S_o rfl rfl rfl rfl (O_call [0] [1,2,3,4] (text_ok E p _) rfl rfl ?_)
        (rintro _ _ ⟨rfl, rfl⟩; refine ⟨_, fun _ => ⟨Ent.reN [2,3] rfl, Ent.refl _⟩, ?_⟩)
        refine JS.norm ?_
        refine S_q (Ent.re [2,3] rfl) rfl ((Q_sneq rfl rfl).as (v' := .bool false) (congrArg Value.bool (decide_eq_false (by simp)))) rfl rfl rfl ?_
        first
          | refine S_q (Ent.re [2,3] rfl) rfl (Q_pickT rfl rfl) rfl rfl rfl ?_
          | refine S_q (Ent.re [2,3] rfl) rfl (Q_pickF rfl rfl) rfl rfl rfl ?_
          | refine S_q (Ent.re [2,3] rfl) rfl (Q_pickB rfl rfl rfl) rfl rfl rfl ?_
        refine S_q (Ent.re [2,3] rfl) rfl (Q_move rfl) rfl rfl rfl ?_
        refine S_q (Ent.re [2,3] rfl) rfl (Q_move rfl) rfl rfl rfl ?_
        first
          | refine S_q (Ent.re [2,3] rfl) rfl (Q_fa0 rfl) rfl rfl rfl ?_
          | refine S_q (Ent.re [2,3] rfl) rfl (Q_fa rfl rfl) rfl rfl rfl ?_
          | refine S_q (Ent.re [2,3] rfl) rfl (Q_pfa rfl) rfl rfl rfl ?_
        first
          | refine S_q (Ent.re [2,3] rfl) rfl (Q_ld 0 rfl rfl rfl rfl) rfl rfl rfl ?_
          | refine S_q (Ent.re [2,3] rfl) rfl (Q_ld 1 rfl rfl rfl rfl) rfl rfl rfl ?_
          | refine S_q (Ent.re [2,3] rfl) rfl (Q_ld 2 rfl rfl rfl rfl) rfl rfl rfl ?_
          | refine S_q (Ent.re [2,3] rfl) rfl (Q_ld 3 rfl rfl rfl rfl) rfl rfl rfl ?_
          | refine S_q (Ent.re [2,3] rfl) rfl (Q_ld 4 rfl rfl rfl rfl) rfl rfl rfl ?_
        refine S_o rfl rfl rfl rfl (O_call [0] [1,2,3,4] (synced_ok E p _) rfl rfl ?_)
        (rintro _ _ ⟨rfl, rfl⟩; refine ⟨_, fun _ => ⟨Ent.reN [2,3] rfl, Ent.refl _⟩, ?_⟩)
        refine JS.norm ?_
        refine S_q (Ent.re [2,3] rfl) rfl ((Q_neq rfl rfl).as (v' := .bool false) (congrArg Value.bool (decide_eq_false (by simp)))) rfl rfl rfl ?_
        first
          | refine S_q (Ent.re [2,3] rfl) rfl (Q_pickT rfl rfl) rfl rfl rfl ?_
          | refine S_q (Ent.re [2,3] rfl) rfl (Q_pickF rfl rfl) rfl rfl rfl ?_
          | refine S_q (Ent.re [2,3] rfl) rfl (Q_pickB rfl rfl rfl) rfl rfl rfl ?_
        refine S_nil ?_
        repeat first
          | refine J_seq ?_
          | refine seqQ_normal ?_
          | refine J_condT rfl ?_
          | refine J_condF rfl ?_
          | refine J_block ?_
          | refine blockQ_normal ?_
          | refine J_exit ?_
          | refine seqQ_exit ?_
          | refine blockQ_hit ?_
          | refine blockQ_miss rfl ?_
          | refine J_skip ?_
          | refine J_ret ?_
          | refine seqQ_ret ?_
          | refine blockQ_ret ?_
          | refine loopQ_exit ?_
          | refine loopQ_ret ?_
          | refine J_label ?_
        repeat first
          | refine J_seq ?_
          | refine seqQ_normal ?_
          | refine J_condT rfl ?_
          | refine J_condF rfl ?_
          | refine J_block ?_
          | refine blockQ_normal ?_
          | refine J_exit ?_
          | refine seqQ_exit ?_
          | refine blockQ_hit ?_
          | refine blockQ_miss rfl ?_
          | refine J_skip ?_
          | refine J_ret ?_
          | refine seqQ_ret ?_
          | refine blockQ_ret ?_
          | refine loopQ_exit ?_
          | refine loopQ_ret ?_
          | refine J_label ?_
        refine J_region ?_
        refine L_q (Q_move rfl) rfl rfl rfl ?_
        refine L_q (Q_add rfl rfl (by first | exact IntWalk.i64_in _ (by omega) | exact IntWalk.u8_in _ (by omega) | exact IntWalk.u32_in _ (by omega) | exact IntWalk.u64_in _ (by omega) | rfl)) rfl rfl rfl ?_
        refine L_q (Q_assign rfl) rfl rfl rfl ?_
        refine JL_nil ?_
        repeat first
          | refine J_seq ?_
          | refine seqQ_normal ?_
          | refine J_condT rfl ?_
          | refine J_condF rfl ?_
          | refine J_block ?_
          | refine blockQ_normal ?_
          | refine J_exit ?_
          | refine seqQ_exit ?_
          | refine blockQ_hit ?_
          | refine blockQ_miss rfl ?_
          | refine J_skip ?_
          | refine J_ret ?_
          | refine seqQ_ret ?_
          | refine blockQ_ret ?_
          | refine loopQ_exit ?_
          | refine loopQ_ret ?_
          | refine J_label ?_
        exact loopQ_normal (k + 1) hlt (by omega) ⟨rfl, rfl, rfl, rfl, trivial⟩ (by rw [hd2]; exact Ent.re [2, 0, 3, 4] rfl)
      · refine S_o rfl rfl rfl rfl (O_alloc fun b6 => ⟨_, fun _ => ⟨Ent.reN [1,3] rfl, Ent.refl _⟩, ?_⟩)
        refine JS.norm ?_
        refine S_o rfl rfl rfl rfl (O_call [] [0,1,2,3,4] hr rfl rfl ?_)
        (rintro _ _ ⟨rfl, rfl⟩; refine ⟨_, fun _ => ⟨Ent.reN [1,3] rfl, Ent.refl _⟩, ?_⟩)
        refine JS.norm ?_
        refine S_q (Ent.re [1,3] rfl) rfl (Q_move rfl) rfl rfl rfl ?_
        refine S_q (Ent.re [1,3] rfl) rfl (Q_extract (v := dkV d2) rfl rfl) rfl rfl rfl ?_
        refine S_q (Ent.re [1,3] rfl) rfl (Q_extract (v := .int .i64 e) rfl rfl) rfl rfl rfl ?_
        first
          | refine S_s rfl rfl rfl (O_stW 0 rfl rfl rfl rfl ⟨_, fun _ => ⟨Ent.reN [1,3] rfl, Ent.refl _⟩, ?_⟩)
          | refine S_s rfl rfl rfl (O_stW 1 rfl rfl rfl rfl ⟨_, fun _ => ⟨Ent.reN [1,3] rfl, Ent.refl _⟩, ?_⟩)
          | refine S_s rfl rfl rfl (O_stW 2 rfl rfl rfl rfl ⟨_, fun _ => ⟨Ent.reN [1,3] rfl, Ent.refl _⟩, ?_⟩)
          | refine S_s rfl rfl rfl (O_stW 3 rfl rfl rfl rfl ⟨_, fun _ => ⟨Ent.reN [1,3] rfl, Ent.refl _⟩, ?_⟩)
          | refine S_s rfl rfl rfl (O_stW 4 rfl rfl rfl rfl ⟨_, fun _ => ⟨Ent.reN [1,3] rfl, Ent.refl _⟩, ?_⟩)
        refine JS.norm ?_
        refine S_q (Ent.re [1,3] rfl) rfl (Q_assign rfl) rfl rfl rfl ?_
        refine S_nil ?_
        repeat first
          | refine J_seq ?_
          | refine seqQ_normal ?_
          | refine J_condT rfl ?_
          | refine J_condF rfl ?_
          | refine J_block ?_
          | refine blockQ_normal ?_
          | refine J_exit ?_
          | refine seqQ_exit ?_
          | refine blockQ_hit ?_
          | refine blockQ_miss rfl ?_
          | refine J_skip ?_
          | refine J_ret ?_
          | refine seqQ_ret ?_
          | refine blockQ_ret ?_
          | refine loopQ_exit ?_
          | refine loopQ_ret ?_
          | refine J_label ?_
        repeat first
          | refine J_seq ?_
          | refine seqQ_normal ?_
          | refine J_condT rfl ?_
          | refine J_condF rfl ?_
          | refine J_block ?_
          | refine blockQ_normal ?_
          | refine J_exit ?_
          | refine seqQ_exit ?_
          | refine blockQ_hit ?_
          | refine blockQ_miss rfl ?_
          | refine J_skip ?_
          | refine J_ret ?_
          | refine seqQ_ret ?_
          | refine blockQ_ret ?_
          | refine loopQ_exit ?_
          | refine loopQ_ret ?_
          | refine J_label ?_
        refine J_region ?_
        first
          | refine L_q (Q_ldA 0 rfl rfl rfl) rfl rfl rfl ?_
          | refine L_q (Q_ldA 1 rfl rfl rfl) rfl rfl rfl ?_
          | refine L_q (Q_ldA 2 rfl rfl rfl) rfl rfl rfl ?_
          | refine L_q (Q_ldA 3 rfl rfl rfl) rfl rfl rfl ?_
          | refine L_q (Q_ldA 4 rfl rfl rfl) rfl rfl rfl ?_
        first
          | refine L_s rfl rfl (O_stW 0 rfl rfl rfl rfl ?_)
          | refine L_s rfl rfl (O_stW 1 rfl rfl rfl rfl ?_)
          | refine L_s rfl rfl (O_stW 2 rfl rfl rfl rfl ?_)
          | refine L_s rfl rfl (O_stW 3 rfl rfl rfl rfl ?_)
          | refine L_s rfl rfl (O_stW 4 rfl rfl rfl rfl ?_)
        refine JL.norm ?_
        refine JL_nil ?_
        repeat first
          | refine J_seq ?_
          | refine seqQ_normal ?_
          | refine J_condT rfl ?_
          | refine J_condF rfl ?_
          | refine J_block ?_
          | refine blockQ_normal ?_
          | refine J_exit ?_
          | refine seqQ_exit ?_
          | refine blockQ_hit ?_
          | refine blockQ_miss rfl ?_
          | refine J_skip ?_
          | refine J_ret ?_
          | refine seqQ_ret ?_
          | refine blockQ_ret ?_
          | refine loopQ_exit ?_
          | refine loopQ_ret ?_
          | refine J_label ?_
        repeat first
          | refine J_seq ?_
          | refine seqQ_normal ?_
          | refine J_condT rfl ?_
          | refine J_condF rfl ?_
          | refine J_block ?_
          | refine blockQ_normal ?_
          | refine J_exit ?_
          | refine seqQ_exit ?_
          | refine blockQ_hit ?_
          | refine blockQ_miss rfl ?_
          | refine J_skip ?_
          | refine J_ret ?_
          | refine seqQ_ret ?_
          | refine blockQ_ret ?_
          | refine loopQ_exit ?_
          | refine loopQ_ret ?_
          | refine J_label ?_
        refine J_drawH [1,3] [0, 1, 2, 3, 4, 6, 7, 8, 9, 11, 12, 13, 14, 15, 16, 18, 19, 20, 21] (.quiet 0 (.quiet 1 (.quiet 2 (.quiet 3 (.quiet 4 (.quiet 6 (.loud 5 (.quiet 7 (.quiet 8 (.quiet 9 (.quiet 11 (.quiet 12 (.loud 10 (.quiet 13 (.quiet 14 (.quiet 15 (.quiet 16 (.quiet 18 (.quiet 19 (.loud 17 (.quiet 20 (.quiet 21 .done)))))))))))))))))))))) Try.mixed (by kernel_rfl) (by kernel_rfl) (by repeat (first | exact retQ_noP | refine seqQ_noP ?_ | refine blockQ_noP ?_ | refine loopQ_noP ?_)) ?_
        refine S_q (Ent.re [1,3] rfl) rfl (Q_move rfl) rfl rfl rfl ?_
        refine S_q (Ent.re [1,3] rfl) rfl (Q_move rfl) rfl rfl rfl ?_
        refine S_q (Ent.re [1,3] rfl) rfl (Q_move rfl) rfl rfl rfl ?_
        refine S_q (Ent.re [1,3] rfl) rfl (Q_ixAt 1 k rfl rfl rfl rfl hlt rfl) rfl rfl rfl ?_
        refine S_q (Ent.re [1,3] rfl) rfl (Q_ldEAAt 1 k 0 (vs := tAct.enc l[k]) rfl rfl rfl rfl hlt (by decide) rfl) rfl rfl rfl ?_
        refine S_q (Ent.re [1,3] rfl) rfl (Q_move rfl) rfl rfl rfl ?_
        refine S_o rfl rfl rfl rfl (O_call [2] [0,1,3,4] ho rfl rfl ?_)
        (rintro _ _ ⟨rfl, rfl⟩; refine ⟨_, fun _ => ⟨Ent.reN [2,3] rfl, Ent.refl _⟩, ?_⟩)
        refine JS.norm ?_
        refine S_q (Ent.re [2,3] rfl) rfl ((Q_neq rfl rfl).as (v' := .bool false) (congrArg Value.bool (decide_eq_false (by simp)))) rfl rfl rfl ?_
        refine S_q (Ent.re [2,3] rfl) rfl (Q_move rfl) rfl rfl rfl ?_
        refine S_q (Ent.re [2,3] rfl) rfl (Q_move rfl) rfl rfl rfl ?_
        first
          | refine S_q (Ent.re [2,3] rfl) rfl (Q_fa0 rfl) rfl rfl rfl ?_
          | refine S_q (Ent.re [2,3] rfl) rfl (Q_fa rfl rfl) rfl rfl rfl ?_
          | refine S_q (Ent.re [2,3] rfl) rfl (Q_pfa rfl) rfl rfl rfl ?_
        first
          | refine S_q (Ent.re [2,3] rfl) rfl (Q_ld 0 rfl rfl rfl rfl) rfl rfl rfl ?_
          | refine S_q (Ent.re [2,3] rfl) rfl (Q_ld 1 rfl rfl rfl rfl) rfl rfl rfl ?_
          | refine S_q (Ent.re [2,3] rfl) rfl (Q_ld 2 rfl rfl rfl rfl) rfl rfl rfl ?_
          | refine S_q (Ent.re [2,3] rfl) rfl (Q_ld 3 rfl rfl rfl rfl) rfl rfl rfl ?_
          | refine S_q (Ent.re [2,3] rfl) rfl (Q_ld 4 rfl rfl rfl rfl) rfl rfl rfl ?_
        refine S_o rfl rfl rfl rfl (O_call [0] [1,2,3,4] (text_ok E p _) rfl rfl ?_)
        (rintro _ _ ⟨rfl, rfl⟩; refine ⟨_, fun _ => ⟨Ent.reN [2,3] rfl, Ent.refl _⟩, ?_⟩)
        refine JS.norm ?_
        refine S_q (Ent.re [2,3] rfl) rfl ((Q_sneq rfl rfl).as (v' := .bool false) (congrArg Value.bool (decide_eq_false (by simp)))) rfl rfl rfl ?_
        first
          | refine S_q (Ent.re [2,3] rfl) rfl (Q_pickT rfl rfl) rfl rfl rfl ?_
          | refine S_q (Ent.re [2,3] rfl) rfl (Q_pickF rfl rfl) rfl rfl rfl ?_
          | refine S_q (Ent.re [2,3] rfl) rfl (Q_pickB rfl rfl rfl) rfl rfl rfl ?_
        refine S_q (Ent.re [2,3] rfl) rfl (Q_move rfl) rfl rfl rfl ?_
        refine S_q (Ent.re [2,3] rfl) rfl (Q_move rfl) rfl rfl rfl ?_
        first
          | refine S_q (Ent.re [2,3] rfl) rfl (Q_fa0 rfl) rfl rfl rfl ?_
          | refine S_q (Ent.re [2,3] rfl) rfl (Q_fa rfl rfl) rfl rfl rfl ?_
          | refine S_q (Ent.re [2,3] rfl) rfl (Q_pfa rfl) rfl rfl rfl ?_
        first
          | refine S_q (Ent.re [2,3] rfl) rfl (Q_ld 0 rfl rfl rfl rfl) rfl rfl rfl ?_
          | refine S_q (Ent.re [2,3] rfl) rfl (Q_ld 1 rfl rfl rfl rfl) rfl rfl rfl ?_
          | refine S_q (Ent.re [2,3] rfl) rfl (Q_ld 2 rfl rfl rfl rfl) rfl rfl rfl ?_
          | refine S_q (Ent.re [2,3] rfl) rfl (Q_ld 3 rfl rfl rfl rfl) rfl rfl rfl ?_
          | refine S_q (Ent.re [2,3] rfl) rfl (Q_ld 4 rfl rfl rfl rfl) rfl rfl rfl ?_
        refine S_o rfl rfl rfl rfl (O_call [0] [1,2,3,4] (synced_ok E p _) rfl rfl ?_)
        (rintro _ _ ⟨rfl, rfl⟩; refine ⟨_, fun _ => ⟨Ent.reN [2,3] rfl, Ent.refl _⟩, ?_⟩)
        refine JS.norm ?_
        refine S_q (Ent.re [2,3] rfl) rfl ((Q_neq rfl rfl).as (v' := .bool false) (congrArg Value.bool (decide_eq_false (by simp)))) rfl rfl rfl ?_
        first
          | refine S_q (Ent.re [2,3] rfl) rfl (Q_pickT rfl rfl) rfl rfl rfl ?_
          | refine S_q (Ent.re [2,3] rfl) rfl (Q_pickF rfl rfl) rfl rfl rfl ?_
          | refine S_q (Ent.re [2,3] rfl) rfl (Q_pickB rfl rfl rfl) rfl rfl rfl ?_
        refine S_nil ?_
        repeat first
          | refine J_seq ?_
          | refine seqQ_normal ?_
          | refine J_condT rfl ?_
          | refine J_condF rfl ?_
          | refine J_block ?_
          | refine blockQ_normal ?_
          | refine J_exit ?_
          | refine seqQ_exit ?_
          | refine blockQ_hit ?_
          | refine blockQ_miss rfl ?_
          | refine J_skip ?_
          | refine J_ret ?_
          | refine seqQ_ret ?_
          | refine blockQ_ret ?_
          | refine loopQ_exit ?_
          | refine loopQ_ret ?_
          | refine J_label ?_
        repeat first
          | refine J_seq ?_
          | refine seqQ_normal ?_
          | refine J_condT rfl ?_
          | refine J_condF rfl ?_
          | refine J_block ?_
          | refine blockQ_normal ?_
          | refine J_exit ?_
          | refine seqQ_exit ?_
          | refine blockQ_hit ?_
          | refine blockQ_miss rfl ?_
          | refine J_skip ?_
          | refine J_ret ?_
          | refine seqQ_ret ?_
          | refine blockQ_ret ?_
          | refine loopQ_exit ?_
          | refine loopQ_ret ?_
          | refine J_label ?_
        refine J_region ?_
        refine L_q (Q_move rfl) rfl rfl rfl ?_
        refine L_q (Q_add rfl rfl (by first | exact IntWalk.i64_in _ (by omega) | exact IntWalk.u8_in _ (by omega) | exact IntWalk.u32_in _ (by omega) | exact IntWalk.u64_in _ (by omega) | rfl)) rfl rfl rfl ?_
        refine L_q (Q_assign rfl) rfl rfl rfl ?_
        refine JL_nil ?_
        repeat first
          | refine J_seq ?_
          | refine seqQ_normal ?_
          | refine J_condT rfl ?_
          | refine J_condF rfl ?_
          | refine J_block ?_
          | refine blockQ_normal ?_
          | refine J_exit ?_
          | refine seqQ_exit ?_
          | refine blockQ_hit ?_
          | refine blockQ_miss rfl ?_
          | refine J_skip ?_
          | refine J_ret ?_
          | refine seqQ_ret ?_
          | refine blockQ_ret ?_
          | refine loopQ_exit ?_
          | refine loopQ_ret ?_
          | refine J_label ?_
        exact loopQ_normal (k + 1) hlt (by omega) ⟨rfl, rfl, rfl, rfl, trivial⟩ (by rw [hd2]; exact Ent.re [2, 0, 3, 4] rfl)
    · repeat first
        | refine J_seq ?_
        | refine seqQ_normal ?_
        | refine J_condT rfl ?_
        | refine J_condF rfl ?_
        | refine J_block ?_
        | refine blockQ_normal ?_
        | refine J_exit ?_
        | refine seqQ_exit ?_
        | refine blockQ_hit ?_
        | refine blockQ_miss rfl ?_
        | refine J_skip ?_
        | refine J_ret ?_
        | refine seqQ_ret ?_
        | refine blockQ_ret ?_
        | refine loopQ_exit ?_
        | refine loopQ_ret ?_
        | refine J_label ?_
      refine J_region ?_
      refine L_o rfl rfl rfl (O_call [] [0,1,2,3] (awake_ok E) rfl rfl ?_)
      rintro _ _ ⟨rfl, rfl⟩
      refine JL.norm ?_
      refine L_q (Q_assign rfl) rfl rfl rfl ?_
      refine JL_nil ?_
      repeat first
        | refine J_seq ?_
        | refine seqQ_normal ?_
        | refine J_condT rfl ?_
        | refine J_condF rfl ?_
        | refine J_block ?_
        | refine blockQ_normal ?_
        | refine J_exit ?_
        | refine seqQ_exit ?_
        | refine blockQ_hit ?_
        | refine blockQ_miss rfl ?_
        | refine J_skip ?_
        | refine J_ret ?_
        | refine seqQ_ret ?_
        | refine blockQ_ret ?_
        | refine loopQ_exit ?_
        | refine loopQ_ret ?_
        | refine J_label ?_
      exact retQ_ret _ [] (.cons (RV_tmp rfl) .nil) ⟨rfl, rfl⟩ (Ent.re [3] rfl)
end Go.Proofs
