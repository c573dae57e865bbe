/- The law SegmentDrop: its walk. -/
import Derived.Test.YtogjhcelmbhooaaFew35
import Derived.Test.YtogjhcelmbhooaaSegQ
set_option autoImplicit false
namespace Go.Proofs
open Go.SL
attribute [local irreducible] J JL QOp JOp seqQ blockQ loopQ retQ slc cel hex star pur stars Does RV Ent pAt scopeQ
attribute [local irreducible] fileAt diskAt
theorem dropl_calls (E : World) (z : Int) (T : SV) (l : List (List UInt8)) (seq : Int) : Does Try.prog E 6 [.int .i64 z, T.v, .int .i64 seq] [slc tS false T l] fun v L => v = .bool true ∧ L = [] := by
  refine Does.of Try.func6 rfl Try.ntmps6 rfl rfl fun F => ?_
  refine J.norm ?_
  refine J_seq ?_
  refine J_region ?_
  refine L_q (Q_assign rfl) rfl rfl rfl ?_
  refine JL_nil ?_
  refine seqQ_normal ?_
  refine J_seq ?_
  refine J_seq ?_
  refine J_region ?_
  refine L_q (Q_move rfl) rfl rfl rfl ?_
  refine L_q (Q_lenAt 0 rfl rfl) rfl rfl rfl ?_
  refine L_q (Q_gtr rfl rfl) rfl rfl rfl ?_
  refine JL_nil ?_
  refine seqQ_normal ?_
  refine J_condD rfl (fun h => ?_) (fun h => ?_)
  · refine J_seq ?_
    refine J_region ?_
    refine L_o rfl rfl rfl (O_call [] [0,1] (awake_ok E) rfl rfl ?_)
    rintro _ _ ⟨rfl, rfl⟩
    refine JL.norm ?_
    refine L_q (Q_assign rfl) rfl rfl rfl ?_
    refine JL_nil ?_
    refine seqQ_normal ?_
    refine J_ret ?_
    refine seqQ_ret ?_
    exact retQ_ret _ [] (.cons (RV_tmp rfl) .nil) ⟨rfl, rfl⟩ (Ent.re [1] rfl)
  have hl60 : l.length ≤ 60 := by omega
  refine J_skip ?_
  refine seqQ_normal ?_
  refine J_seq ?_
  refine J_region ?_
  refine L_q (Q_move rfl) rfl rfl rfl ?_
  refine L_o rfl rfl rfl (O_call [] [0,1] (segnew_ok E z) rfl rfl ?_)
  rintro _ _ ⟨p, rfl, rfl⟩
  refine JL.norm ?_
  refine L_q (Q_assign rfl) rfl rfl rfl ?_
  refine JL_nil ?_
  refine seqQ_normal ?_
  refine J_seq ?_
  refine J_seq ?_
  refine J_region ?_
  refine L_q (Q_assign rfl) rfl rfl rfl ?_
  refine JL_nil ?_
  refine seqQ_normal ?_
  refine J_block ?_
  refine J_loop (fun i : Nat × Lg × SV × List Fp => i.2.2.2.map (·.1) = i.2.1.fs ∧ Good i.2.1 i.1 ∧ i.1 ≤ l.length)
    (fun i => [(1, T.v), (2, .int .i64 seq), (7, .pointer (some ⟨p, 0, none⟩)), (8, .int .i64 (i.1 : Int))])
    (fun i => [segC p i.2.1.size i.2.1.sure i.2.2.1, slc tPf true i.2.2.1 i.2.2.2, fsC i.2.2.2, slc tS false T l, F]) (fun i => l.length - i.1) (0, ⟨newSize z, 0, []⟩, SV.nil, []) ⟨rfl, good_new z, by simp⟩ ⟨rfl, rfl, rfl, rfl, trivial⟩ (Ent.refl _) ?_
  rintro ⟨k, g, S, ps⟩ ⟨hf, hg, hk⟩
  dsimp only at hf hg hk ⊢
  refine J_seq ?_
  refine J_seq ?_
  refine J_region ?_
  refine L_q (Q_move rfl) rfl rfl rfl ?_
  refine L_q (Q_move rfl) rfl rfl rfl ?_
  refine L_q (Q_lenAt 3 rfl rfl) rfl rfl rfl ?_
  refine L_q (Q_lss rfl rfl) rfl rfl rfl ?_
  refine JL_nil ?_
  refine seqQ_normal ?_
  refine J_condD rfl (fun h2 => ?_) (fun h2 => ?_)
  · have hlt : k < l.length := by omega
    refine J_skip ?_
    refine seqQ_normal ?_
    refine J_seq ?_
    refine J_block ?_
    refine J_seq ?_
    refine J_seq ?_
    refine J_region ?_
    refine L_q (Q_move rfl) rfl rfl rfl ?_
    refine L_q (Q_move rfl) rfl rfl rfl ?_
    refine L_q (Q_ixAt 3 k rfl rfl rfl rfl hlt rfl) rfl rfl rfl ?_
    refine L_q (Q_ldEAt 3 k 0 (v := str l[k]) rfl rfl rfl rfl hlt (by decide) rfl) rfl rfl rfl ?_
    refine L_q (Q_slen rfl) rfl rfl rfl ?_
    refine L_q (Q_gtr rfl rfl) rfl rfl rfl ?_
    refine JL_nil ?_
    refine seqQ_normal ?_
    refine J_condD rfl (fun h3 => ?_) (fun h3 => ?_)
    · refine J_seq ?_
      refine J_region ?_
      refine L_o rfl rfl rfl (O_call [] [0,1,2,3,4] (awake_ok E) rfl rfl ?_)
      rintro _ _ ⟨rfl, rfl⟩
      refine JL.norm ?_
      refine L_q (Q_assign rfl) rfl rfl rfl ?_
      refine JL_nil ?_
      refine seqQ_normal ?_
      refine J_ret ?_
      refine seqQ_ret ?_
      refine blockQ_ret ?_
      refine seqQ_ret ?_
      refine loopQ_ret ?_
      refine blockQ_ret ?_
      refine seqQ_ret ?_
      exact retQ_ret _ [] (.cons (RV_tmp rfl) .nil) ⟨rfl, rfl⟩ (Ent.re [4] rfl)
    · refine J_skip ?_
      refine seqQ_normal ?_
      refine J_region ?_
      refine L_q (Q_move rfl) rfl rfl rfl ?_
      refine L_q (Q_move rfl) rfl rfl rfl ?_
      refine L_q (Q_move rfl) rfl rfl rfl ?_
      refine L_q (Q_ixAt 3 k rfl rfl rfl rfl hlt rfl) rfl rfl rfl ?_
      refine L_q (Q_ldEAt 3 k 0 (v := str l[k]) rfl rfl rfl rfl hlt (by decide) rfl) rfl rfl rfl ?_
      refine L_o rfl rfl rfl (O_call [0,1,2] [3,4] (append_g E p g S ps k l[k] hg (by omega) hf) rfl rfl ?_)
      rintro _ _ ⟨S', ps', rfl, hf', rfl⟩
      refine JL.norm ?_
      refine JL_nil ?_
      refine blockQ_normal ?_
      refine seqQ_normal ?_
      refine J_region ?_
      refine L_q (Q_move rfl) rfl rfl rfl ?_
      refine L_q (Q_add rfl rfl (by first | exact IntWalk.i64_in _ (by omega) | exact IntWalk.u8_in _ (by omega) | exact IntWalk.u32_in _ (by omega) | exact IntWalk.u64_in _ (by omega) | rfl)) rfl rfl rfl ?_
      refine L_q (Q_assign rfl) rfl rfl rfl ?_
      refine JL_nil ?_
      exact loopQ_normal (k + 1, (appL g l[k]).1, S', ps') ⟨hf', hg.app l[k], hlt⟩ (by simp only; omega) ⟨rfl, rfl, rfl, rfl, trivial⟩ (Ent.refl _)
  · have hgd := hg.drop seq
    have hfew := hg.few
    have hdn := drop_next g.fs seq
    obtain ⟨hd1, hd2⟩ := drop_first g.fs seq hg.ch
    have hdl := dropN_lt g.fs seq
    have hdle := dropN_le g.fs seq
    have hn := hg.next
    have hn2 := first_le_next g.fs hg.ch
    have hn3 := first_le_next _ hgd.ch
    have hnd : nextOf (dropL g seq).1.fs = nextOf g.fs := hdn
    have hfd : firstOf (dropL g seq).1.fs = firstOf (g.fs.drop (dropN g.fs seq)) := rfl
    have hll : (dropL g seq).1.fs.length = g.fs.length - dropN g.fs seq := by simp [dropL]
    have hls : (dropL g seq).2 = dropN g.fs seq := rfl
    rw [hnd, hfd] at hn3
    have c1 := first_g E p g S ps k hg hf
    have c2 := next_g E p g S ps k hg (by omega) hf
    have c3 := files_g E p g S ps hf
    have c4 := drop_g E p g S ps k seq hg (by omega) hf
    rw [hls] at c4
    have c5 := fun S' ps' hf' => first_g E p (dropL g seq).1 S' ps' k hgd hf'
    rw [hfd] at c5
    have c6 := fun S' ps' hf' => files_g E p (dropL g seq).1 S' ps' hf'
    rw [hll] at c6
    have c7 := fun S' ps' hf' => next_g E p (dropL g seq).1 S' ps' k hgd (by omega) hf'
    rw [hnd] at c7
    have hd3 : g.fs.length = 0 ∨ dropN g.fs seq < g.fs.length := hdl.imp (fun h => by rw [h]; rfl) id
    generalize hF1 : firstOf (g.fs.drop (dropN g.fs seq)) = f1 at *
    generalize hF0 : firstOf g.fs = f0 at *
    generalize hN : nextOf g.fs = nx at *
    generalize hD : dropN g.fs seq = dn at *
    generalize hL : g.fs.length = fl at *
    refine J_exit ?_
    refine seqQ_exit ?_
    refine loopQ_exit ?_
    refine blockQ_hit ?_
    refine seqQ_normal ?_
    refine J_seq ?_
    refine J_region ?_
    refine L_q (Q_move rfl) rfl rfl rfl ?_
    refine L_o rfl rfl rfl (O_call [0,1,2] [3,4] c1 rfl rfl ?_)
    rintro _ _ ⟨rfl, rfl⟩
    refine JL.norm ?_
    refine L_q (Q_move rfl) rfl rfl rfl ?_
    refine L_o rfl rfl rfl (O_call [0,1,2] [3,4] c2 rfl rfl ?_)
    rintro _ _ ⟨rfl, rfl⟩
    refine JL.norm ?_
    refine L_q (Q_move rfl) rfl rfl rfl ?_
    refine L_o rfl rfl rfl (O_call [0,1] [2,3,4] c3 rfl rfl ?_)
    rintro _ _ ⟨rfl, rfl⟩
    refine JL.norm ?_
    refine L_q (Q_assign rfl) rfl rfl rfl ?_
    refine L_q (Q_assign rfl) rfl rfl rfl ?_
    refine L_q (Q_assign rfl) rfl rfl rfl ?_
    refine JL_nil ?_
    refine seqQ_normal ?_
    refine J_seq ?_
    refine J_region ?_
    refine L_q (Q_move rfl) rfl rfl rfl ?_
    refine L_q (Q_move rfl) rfl rfl rfl ?_
    refine L_o rfl rfl rfl (O_call [0,1,2] [3,4] c4 rfl rfl ?_)
    rintro _ _ ⟨S', ps', rfl, hf', rfl⟩
    refine JL.norm ?_
    refine L_q (Q_assign rfl) rfl rfl rfl ?_
    refine JL_nil ?_
    refine seqQ_normal ?_
    refine J_seq ?_
    refine J_region ?_
    refine L_q (Q_move rfl) rfl rfl rfl ?_
    refine L_o rfl rfl rfl (O_call [0,1,2] [3,4] (c5 S' ps' hf') rfl rfl ?_)
    rintro _ _ ⟨rfl, rfl⟩
    refine JL.norm ?_
    refine L_q (Q_assign rfl) rfl rfl rfl ?_
    refine JL_nil ?_
    refine seqQ_normal ?_
    refine J_seq ?_
    by_cases b1 : fl = 0
    · by_cases b2 : f1 = f0
      · have hx : True := trivial
        refine J_region ?_
        refine L_q (Q_move rfl) rfl rfl rfl ?_
        refine L_q ((Q_leq rfl rfl).as (v' := .bool true) (congrArg Value.bool (decide_eq_true (by omega)))) rfl rfl rfl ?_
        refine L_q (Q_move rfl) rfl rfl rfl ?_
        refine L_q (Q_move rfl) rfl rfl rfl ?_
        refine L_q ((Q_geq rfl rfl).as (v' := .bool true) (congrArg Value.bool (decide_eq_true (by omega)))) rfl rfl rfl ?_
        refine L_q (Q_pickT rfl rfl) rfl rfl rfl ?_
        refine L_q (Q_move rfl) rfl rfl rfl ?_
        refine L_q (Q_move rfl) rfl rfl rfl ?_
        refine L_o rfl rfl rfl (O_call [0,1] [2,3,4] (c6 S' ps' hf') rfl rfl ?_)
        rintro _ _ ⟨rfl, rfl⟩
        refine JL.norm ?_
        refine L_q (Q_move rfl) rfl rfl rfl ?_
        refine L_q (Q_move rfl) rfl rfl rfl ?_
        refine L_q (Q_sub rfl rfl (by first | exact IntWalk.i64_in _ (by omega) | exact IntWalk.u8_in _ (by omega) | exact IntWalk.u32_in _ (by omega) | exact IntWalk.u64_in _ (by omega) | rfl)) rfl rfl rfl ?_
        refine L_q ((Q_eql rfl rfl).as (v' := .bool true) (congrArg Value.bool (decide_eq_true (by omega)))) rfl rfl rfl ?_
        refine L_q (Q_pickT rfl rfl) rfl rfl rfl ?_
        refine L_q (Q_move rfl) rfl rfl rfl ?_
        refine L_q (Q_move rfl) rfl rfl rfl ?_
        refine L_q ((Q_eql rfl rfl).as (v' := .bool true) (congrArg Value.bool (decide_eq_true (by omega)))) rfl rfl rfl ?_
        refine L_q (Q_move rfl) rfl rfl rfl ?_
        refine L_n rfl rfl rfl ?_
        refine L_n rfl rfl rfl ?_
        refine L_n rfl rfl rfl ?_
        refine L_q (Q_pickT rfl rfl) rfl rfl rfl ?_
        refine L_q (Q_pickT rfl rfl) rfl rfl rfl ?_
        refine L_q (Q_move rfl) rfl rfl rfl ?_
        refine L_q (Q_move rfl) rfl rfl rfl ?_
        refine L_q (Q_move rfl) rfl rfl rfl ?_
        refine L_q ((Q_geq rfl rfl).as (v' := .bool true) (congrArg Value.bool (decide_eq_true (by omega)))) rfl rfl rfl ?_
        refine L_q (Q_pickT rfl rfl) rfl rfl rfl ?_
        refine L_q (Q_move rfl) rfl rfl rfl ?_
        refine L_q (Q_move rfl) rfl rfl rfl ?_
        refine L_q (Q_move rfl) rfl rfl rfl ?_
        refine L_q ((Q_eql rfl rfl).as (v' := .bool true) (congrArg Value.bool (decide_eq_true (by omega)))) rfl rfl rfl ?_
        refine L_q (Q_move rfl) rfl rfl rfl ?_
        refine L_n rfl rfl rfl ?_
        refine L_n rfl rfl rfl ?_
        refine L_n rfl rfl rfl ?_
        refine L_q (Q_pickT rfl rfl) rfl rfl rfl ?_
        refine L_q (Q_pickT rfl rfl) rfl rfl rfl ?_
        refine L_q (Q_move rfl) rfl rfl rfl ?_
        refine L_q (Q_move rfl) rfl rfl rfl ?_
        refine L_o rfl rfl rfl (O_call [0,1,2] [3,4] (c7 S' ps' hf') rfl rfl ?_)
        rintro _ _ ⟨rfl, rfl⟩
        refine JL.norm ?_
        refine L_q (Q_move rfl) rfl rfl rfl ?_
        refine L_q ((Q_eql rfl rfl).as (v' := .bool true) (congrArg Value.bool (decide_eq_true rfl))) rfl rfl rfl ?_
        refine L_q (Q_pickT rfl rfl) rfl rfl rfl ?_
        refine L_q (Q_move rfl) rfl rfl rfl ?_
        refine L_o rfl rfl rfl (O_call [] [0,1,2,3,4] (awake_ok E) rfl rfl ?_)
        rintro _ _ ⟨rfl, rfl⟩
        refine JL.norm ?_
        refine L_q (Q_pickT rfl rfl) rfl rfl rfl ?_
        refine L_q (Q_assign rfl) rfl rfl rfl ?_
        refine JL_nil ?_
        refine seqQ_normal ?_
        refine J_ret ?_
        exact retQ_ret _ [] (.cons (RV_tmp rfl) .nil) ⟨rfl, rfl⟩ (Ent.re [4] rfl)
      · have hx : True := trivial
        refine J_region ?_
        refine L_q (Q_move rfl) rfl rfl rfl ?_
        refine L_q ((Q_leq rfl rfl).as (v' := .bool true) (congrArg Value.bool (decide_eq_true (by omega)))) rfl rfl rfl ?_
        refine L_q (Q_move rfl) rfl rfl rfl ?_
        refine L_q (Q_move rfl) rfl rfl rfl ?_
        refine L_q ((Q_geq rfl rfl).as (v' := .bool true) (congrArg Value.bool (decide_eq_true (by omega)))) rfl rfl rfl ?_
        refine L_q (Q_pickT rfl rfl) rfl rfl rfl ?_
        refine L_q (Q_move rfl) rfl rfl rfl ?_
        refine L_q (Q_move rfl) rfl rfl rfl ?_
        refine L_o rfl rfl rfl (O_call [0,1] [2,3,4] (c6 S' ps' hf') rfl rfl ?_)
        rintro _ _ ⟨rfl, rfl⟩
        refine JL.norm ?_
        refine L_q (Q_move rfl) rfl rfl rfl ?_
        refine L_q (Q_move rfl) rfl rfl rfl ?_
        refine L_q (Q_sub rfl rfl (by first | exact IntWalk.i64_in _ (by omega) | exact IntWalk.u8_in _ (by omega) | exact IntWalk.u32_in _ (by omega) | exact IntWalk.u64_in _ (by omega) | rfl)) rfl rfl rfl ?_
        refine L_q ((Q_eql rfl rfl).as (v' := .bool true) (congrArg Value.bool (decide_eq_true (by omega)))) rfl rfl rfl ?_
        refine L_q (Q_pickT rfl rfl) rfl rfl rfl ?_
        refine L_q (Q_move rfl) rfl rfl rfl ?_
        refine L_q (Q_move rfl) rfl rfl rfl ?_
        refine L_q ((Q_eql rfl rfl).as (v' := .bool true) (congrArg Value.bool (decide_eq_true (by omega)))) rfl rfl rfl ?_
        refine L_q (Q_move rfl) rfl rfl rfl ?_
        refine L_n rfl rfl rfl ?_
        refine L_n rfl rfl rfl ?_
        refine L_n rfl rfl rfl ?_
        refine L_q (Q_pickT rfl rfl) rfl rfl rfl ?_
        refine L_q (Q_pickT rfl rfl) rfl rfl rfl ?_
        refine L_q (Q_move rfl) rfl rfl rfl ?_
        refine L_q (Q_move rfl) rfl rfl rfl ?_
        refine L_q (Q_move rfl) rfl rfl rfl ?_
        refine L_q ((Q_geq rfl rfl).as (v' := .bool true) (congrArg Value.bool (decide_eq_true (by omega)))) rfl rfl rfl ?_
        refine L_q (Q_pickT rfl rfl) rfl rfl rfl ?_
        refine L_q (Q_move rfl) rfl rfl rfl ?_
        refine L_q (Q_move rfl) rfl rfl rfl ?_
        refine L_q (Q_move rfl) rfl rfl rfl ?_
        refine L_q ((Q_eql rfl rfl).as (v' := .bool false) (congrArg Value.bool (decide_eq_false (by omega)))) rfl rfl rfl ?_
        refine L_q (Q_move rfl) rfl rfl rfl ?_
        refine L_q (Q_move rfl) rfl rfl rfl ?_
        refine L_q (Q_move rfl) rfl rfl rfl ?_
        refine L_q ((Q_leq rfl rfl).as (v' := .bool true) (congrArg Value.bool (decide_eq_true (by omega)))) rfl rfl rfl ?_
        refine L_q (Q_pickF rfl rfl) rfl rfl rfl ?_
        refine L_q (Q_pickT rfl rfl) rfl rfl rfl ?_
        refine L_q (Q_move rfl) rfl rfl rfl ?_
        refine L_q (Q_move rfl) rfl rfl rfl ?_
        refine L_o rfl rfl rfl (O_call [0,1,2] [3,4] (c7 S' ps' hf') rfl rfl ?_)
        rintro _ _ ⟨rfl, rfl⟩
        refine JL.norm ?_
        refine L_q (Q_move rfl) rfl rfl rfl ?_
        refine L_q ((Q_eql rfl rfl).as (v' := .bool true) (congrArg Value.bool (decide_eq_true rfl))) rfl rfl rfl ?_
        refine L_q (Q_pickT rfl rfl) rfl rfl rfl ?_
        refine L_q (Q_move rfl) rfl rfl rfl ?_
        refine L_o rfl rfl rfl (O_call [] [0,1,2,3,4] (awake_ok E) rfl rfl ?_)
        rintro _ _ ⟨rfl, rfl⟩
        refine JL.norm ?_
        refine L_q (Q_pickT rfl rfl) rfl rfl rfl ?_
        refine L_q (Q_assign rfl) rfl rfl rfl ?_
        refine JL_nil ?_
        refine seqQ_normal ?_
        refine J_ret ?_
        exact retQ_ret _ [] (.cons (RV_tmp rfl) .nil) ⟨rfl, rfl⟩ (Ent.re [4] rfl)
    · by_cases b2 : f1 = f0
      · have hx : True := trivial
        refine J_region ?_
        refine L_q (Q_move rfl) rfl rfl rfl ?_
        refine L_q ((Q_leq rfl rfl).as (v' := .bool true) (congrArg Value.bool (decide_eq_true (by omega)))) rfl rfl rfl ?_
        refine L_q (Q_move rfl) rfl rfl rfl ?_
        refine L_q (Q_move rfl) rfl rfl rfl ?_
        refine L_q ((Q_geq rfl rfl).as (v' := .bool true) (congrArg Value.bool (decide_eq_true (by omega)))) rfl rfl rfl ?_
        refine L_q (Q_pickT rfl rfl) rfl rfl rfl ?_
        refine L_q (Q_move rfl) rfl rfl rfl ?_
        refine L_q (Q_move rfl) rfl rfl rfl ?_
        refine L_o rfl rfl rfl (O_call [0,1] [2,3,4] (c6 S' ps' hf') rfl rfl ?_)
        rintro _ _ ⟨rfl, rfl⟩
        refine JL.norm ?_
        refine L_q (Q_move rfl) rfl rfl rfl ?_
        refine L_q (Q_move rfl) rfl rfl rfl ?_
        refine L_q (Q_sub rfl rfl (by first | exact IntWalk.i64_in _ (by omega) | exact IntWalk.u8_in _ (by omega) | exact IntWalk.u32_in _ (by omega) | exact IntWalk.u64_in _ (by omega) | rfl)) rfl rfl rfl ?_
        refine L_q ((Q_eql rfl rfl).as (v' := .bool true) (congrArg Value.bool (decide_eq_true (by omega)))) rfl rfl rfl ?_
        refine L_q (Q_pickT rfl rfl) rfl rfl rfl ?_
        refine L_q (Q_move rfl) rfl rfl rfl ?_
        refine L_q (Q_move rfl) rfl rfl rfl ?_
        refine L_q ((Q_eql rfl rfl).as (v' := .bool false) (congrArg Value.bool (decide_eq_false (by omega)))) rfl rfl rfl ?_
        refine L_q (Q_move rfl) rfl rfl rfl ?_
        refine L_q (Q_move rfl) rfl rfl rfl ?_
        refine L_q (Q_move rfl) rfl rfl rfl ?_
        refine L_q ((Q_lss rfl rfl).as (v' := .bool true) (congrArg Value.bool (decide_eq_true (by omega)))) rfl rfl rfl ?_
        refine L_q (Q_pickF rfl rfl) rfl rfl rfl ?_
        refine L_q (Q_pickT rfl rfl) rfl rfl rfl ?_
        refine L_q (Q_move rfl) rfl rfl rfl ?_
        refine L_q (Q_move rfl) rfl rfl rfl ?_
        refine L_q (Q_move rfl) rfl rfl rfl ?_
        refine L_q ((Q_geq rfl rfl).as (v' := .bool true) (congrArg Value.bool (decide_eq_true (by omega)))) rfl rfl rfl ?_
        refine L_q (Q_pickT rfl rfl) rfl rfl rfl ?_
        refine L_q (Q_move rfl) rfl rfl rfl ?_
        refine L_q (Q_move rfl) rfl rfl rfl ?_
        refine L_q (Q_move rfl) rfl rfl rfl ?_
        refine L_q ((Q_eql rfl rfl).as (v' := .bool true) (congrArg Value.bool (decide_eq_true (by omega)))) rfl rfl rfl ?_
        refine L_q (Q_move rfl) rfl rfl rfl ?_
        refine L_n rfl rfl rfl ?_
        refine L_n rfl rfl rfl ?_
        refine L_n rfl rfl rfl ?_
        refine L_q (Q_pickT rfl rfl) rfl rfl rfl ?_
        refine L_q (Q_pickT rfl rfl) rfl rfl rfl ?_
        refine L_q (Q_move rfl) rfl rfl rfl ?_
        refine L_q (Q_move rfl) rfl rfl rfl ?_
        refine L_o rfl rfl rfl (O_call [0,1,2] [3,4] (c7 S' ps' hf') rfl rfl ?_)
        rintro _ _ ⟨rfl, rfl⟩
        refine JL.norm ?_
        refine L_q (Q_move rfl) rfl rfl rfl ?_
        refine L_q ((Q_eql rfl rfl).as (v' := .bool true) (congrArg Value.bool (decide_eq_true rfl))) rfl rfl rfl ?_
        refine L_q (Q_pickT rfl rfl) rfl rfl rfl ?_
        refine L_q (Q_move rfl) rfl rfl rfl ?_
        refine L_o rfl rfl rfl (O_call [] [0,1,2,3,4] (awake_ok E) rfl rfl ?_)
        rintro _ _ ⟨rfl, rfl⟩
        refine JL.norm ?_
        refine L_q (Q_pickT rfl rfl) rfl rfl rfl ?_
        refine L_q (Q_assign rfl) rfl rfl rfl ?_
        refine JL_nil ?_
        refine seqQ_normal ?_
        refine J_ret ?_
        exact retQ_ret _ [] (.cons (RV_tmp rfl) .nil) ⟨rfl, rfl⟩ (Ent.re [4] rfl)
      · have hx : True := trivial
        refine J_region ?_
        refine L_q (Q_move rfl) rfl rfl rfl ?_
        refine L_q ((Q_leq rfl rfl).as (v' := .bool true) (congrArg Value.bool (decide_eq_true (by omega)))) rfl rfl rfl ?_
        refine L_q (Q_move rfl) rfl rfl rfl ?_
        refine L_q (Q_move rfl) rfl rfl rfl ?_
        refine L_q ((Q_geq rfl rfl).as (v' := .bool true) (congrArg Value.bool (decide_eq_true (by omega)))) rfl rfl rfl ?_
        refine L_q (Q_pickT rfl rfl) rfl rfl rfl ?_
        refine L_q (Q_move rfl) rfl rfl rfl ?_
        refine L_q (Q_move rfl) rfl rfl rfl ?_
        refine L_o rfl rfl rfl (O_call [0,1] [2,3,4] (c6 S' ps' hf') rfl rfl ?_)
        rintro _ _ ⟨rfl, rfl⟩
        refine JL.norm ?_
        refine L_q (Q_move rfl) rfl rfl rfl ?_
        refine L_q (Q_move rfl) rfl rfl rfl ?_
        refine L_q (Q_sub rfl rfl (by first | exact IntWalk.i64_in _ (by omega) | exact IntWalk.u8_in _ (by omega) | exact IntWalk.u32_in _ (by omega) | exact IntWalk.u64_in _ (by omega) | rfl)) rfl rfl rfl ?_
        refine L_q ((Q_eql rfl rfl).as (v' := .bool true) (congrArg Value.bool (decide_eq_true (by omega)))) rfl rfl rfl ?_
        refine L_q (Q_pickT rfl rfl) rfl rfl rfl ?_
        refine L_q (Q_move rfl) rfl rfl rfl ?_
        refine L_q (Q_move rfl) rfl rfl rfl ?_
        refine L_q ((Q_eql rfl rfl).as (v' := .bool false) (congrArg Value.bool (decide_eq_false (by omega)))) rfl rfl rfl ?_
        refine L_q (Q_move rfl) rfl rfl rfl ?_
        refine L_q (Q_move rfl) rfl rfl rfl ?_
        refine L_q (Q_move rfl) rfl rfl rfl ?_
        refine L_q ((Q_lss rfl rfl).as (v' := .bool true) (congrArg Value.bool (decide_eq_true (by omega)))) rfl rfl rfl ?_
        refine L_q (Q_pickF rfl rfl) rfl rfl rfl ?_
        refine L_q (Q_pickT rfl rfl) rfl rfl rfl ?_
        refine L_q (Q_move rfl) rfl rfl rfl ?_
        refine L_q (Q_move rfl) rfl rfl rfl ?_
        refine L_q (Q_move rfl) rfl rfl rfl ?_
        refine L_q ((Q_geq rfl rfl).as (v' := .bool true) (congrArg Value.bool (decide_eq_true (by omega)))) rfl rfl rfl ?_
        refine L_q (Q_pickT rfl rfl) rfl rfl rfl ?_
        refine L_q (Q_move rfl) rfl rfl rfl ?_
        refine L_q (Q_move rfl) rfl rfl rfl ?_
        refine L_q (Q_move rfl) rfl rfl rfl ?_
        refine L_q ((Q_eql rfl rfl).as (v' := .bool false) (congrArg Value.bool (decide_eq_false (by omega)))) rfl rfl rfl ?_
        refine L_q (Q_move rfl) rfl rfl rfl ?_
        refine L_q (Q_move rfl) rfl rfl rfl ?_
        refine L_q (Q_move rfl) rfl rfl rfl ?_
        refine L_q ((Q_leq rfl rfl).as (v' := .bool true) (congrArg Value.bool (decide_eq_true (by omega)))) rfl rfl rfl ?_
        refine L_q (Q_pickF rfl rfl) rfl rfl rfl ?_
        refine L_q (Q_pickT rfl rfl) rfl rfl rfl ?_
        refine L_q (Q_move rfl) rfl rfl rfl ?_
        refine L_q (Q_move rfl) rfl rfl rfl ?_
        refine L_o rfl rfl rfl (O_call [0,1,2] [3,4] (c7 S' ps' hf') rfl rfl ?_)
        rintro _ _ ⟨rfl, rfl⟩
        refine JL.norm ?_
        refine L_q (Q_move rfl) rfl rfl rfl ?_
        refine L_q ((Q_eql rfl rfl).as (v' := .bool true) (congrArg Value.bool (decide_eq_true rfl))) rfl rfl rfl ?_
        refine L_q (Q_pickT rfl rfl) rfl rfl rfl ?_
        refine L_q (Q_move rfl) rfl rfl rfl ?_
        refine L_o rfl rfl rfl (O_call [] [0,1,2,3,4] (awake_ok E) rfl rfl ?_)
        rintro _ _ ⟨rfl, rfl⟩
        refine JL.norm ?_
        refine L_q (Q_pickT rfl rfl) rfl rfl rfl ?_
        refine L_q (Q_assign rfl) rfl rfl rfl ?_
        refine JL_nil ?_
        refine seqQ_normal ?_
        refine J_ret ?_
        exact retQ_ret _ [] (.cons (RV_tmp rfl) .nil) ⟨rfl, rfl⟩ (Ent.re [4] rfl)
end Go.Proofs
