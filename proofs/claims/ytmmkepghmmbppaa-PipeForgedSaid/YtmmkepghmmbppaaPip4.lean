/- A pipe: what goes out. -/
import Derived.Test.YtmmkepghmmbppaaPip3
set_option autoImplicit false
namespace Go.Proofs
open Go.SL
def opK (l : List Bd) (k : Nat) : List Bd := (l.take k).map clr ++ l.drop k
theorem opK_len (l : List Bd) (k : Nat) : (opK l k).length = l.length := by simp [opK]; omega
theorem opK_get (l : List Bd) (k : Nat) (h : k < l.length) (h2 : k < (opK l k).length) : (opK l k)[k] = l[k] := by
  have h3 : (opK l k)[k]? = l[k]? := by
    unfold opK
    rw [List.getElem?_append_right (by simp; omega)]
    simp [Nat.min_eq_left (Nat.le_of_lt h)]
  rw [List.getElem?_eq_getElem h2, List.getElem?_eq_getElem h] at h3
  exact Option.some.inj h3
theorem opK_set (l : List Bd) (k : Nat) (h : k < l.length) : (opK l k).set k (clr l[k]) = opK l (k + 1) := by
  unfold opK
  rw [List.set_append_right _ _ (by simp; omega), List.take_succ_eq_append_getElem h, List.map_append]
  simp [Nat.min_eq_left (Nat.le_of_lt h)]
  rw [List.drop_eq_getElem_cons h]; rfl
theorem opK_same (l : List Bd) (k : Nat) (h : k < l.length) (hf : l[k].fresh = false) : opK l k = opK l (k + 1) := by
  have h2 : clr l[k] = l[k] := by
    generalize l[k] = b at hf ⊢
    obtain ⟨a, b, c⟩ := b
    simp only at hf
    subst hf; rfl
  unfold opK
  rw [List.take_succ_eq_append_getElem h, List.map_append, List.drop_eq_getElem_cons h]
  simp [h2]
theorem opK_0 (l : List Bd) : opK l 0 = l := by simp [opK]
theorem opK_n (l : List Bd) : opK l l.length = l.map clr := by simp [opK]
theorem outL_succ (base : Nat) (due : List Int) (l : List Bd) (k : Nat) (h : k < l.length) : outL base due (l.take (k + 1)) = outL base due (l.take k) ++ if isDue due l[k] = true then [bodyF base l[k]] else [] := by
  unfold outL
  rw [List.take_succ_eq_append_getElem h, List.filter_append, List.map_append]
  congr 1
  by_cases e : isDue due l[k] = true <;> simp [e]
theorem outL_len (base : Nat) (due : List Int) (l : List Bd) : (outL base due l).length ≤ l.length := by
  unfold outL; rw [List.length_map]; exact List.length_filter_le _ _
theorem pollT_succ (room : Nat) (now : Int) (tm : List Op3) (l : List Bd) (k : Nat) (h : k < l.length) : pollT room now tm (l.take (k + 1)) = if l[k].fresh = true then sentL room (pollT room now tm (l.take k)) l[k].seq now else pollT room now tm (l.take k) := by
  unfold pollT
  rw [List.take_succ_eq_append_getElem h, List.foldl_append]; rfl
theorem dueO_up {m l : List Op3} (h : Rel m l) (now : Int) : (dueO l now).Pairwise (· < ·) := by
  unfold dueO
  split
  · rw [List.pairwise_map]; exact h.up.filter _
  · exact List.Pairwise.nil
attribute [local irreducible] J JL QOp JOp seqQ blockQ loopQ retQ slc cel hex star pur stars Does RV Ent pAt scopeQ
attribute [local irreducible] mpC pipeA
theorem ppoll_ok (E : World) (p : Nat) (st : Ps) (c : Nat) (now : Int) (h : PV st c) (hc : c ≤ 100000) (hm : moment now = true) : Does Try.prog E 10 [.pointer (some ⟨p, 0, none⟩), .int .i64 now] [pipeA p st] fun v L => ∃ O : SV, v = O.v ∧ L = [pipeA p (pollS st now), slc tS true O (pollO st now)] := by
  have hr2 := h.r2
  have hol := h.ol
  have hsl := h.sl
  have htl := h.tl
  have hm2 : 0 ≤ now ∧ now ≤ 1099511627776 := of_decide_eq_true hm
  have hdl := dueO_len st.tm now
  have hdl2 := dueL_len st.tm now
  refine Does.of Try.func10 rfl Try.ntmps10 rfl rfl fun F => ?_
  refine J.norm ?_
  refine J.pipe fun w wr t tr r S T m tm hb hrl => ?_
  have hup := dueO_up hrl now
  have hpS : pollS st now = { st with tm := pollT st.room now (dueL st.tm now) st.op, op := st.op.map clr, owe := false } := rfl
  have hpO : pollO st now = if outL (baseOf st.L) (dueO st.tm now) st.op = [] ∧ st.owe = true then [frm (baseOf st.L) [] []] else outL (baseOf st.L) (dueO st.tm now) st.op := rfl
  refine J_seq ?_
  refine J_region ?_
  refine L_q (Q_assign rfl) rfl rfl rfl ?_
  refine JL_nil ?_
  refine seqQ_normal ?_
  refine J_seq ?_
  refine J_seq ?_
  refine J_region ?_
  refine L_q (Q_move rfl) rfl rfl rfl ?_
  refine L_q ((Q_peql rfl rfl).as (v' := .bool false) rfl) rfl rfl rfl ?_
  refine L_q (Q_move rfl) rfl rfl rfl ?_
  refine L_q (Q_move rfl) rfl rfl rfl ?_
  refine L_q ((Q_lss rfl rfl).as (v' := .bool false) (congrArg Value.bool (decide_eq_false (by omega)))) rfl rfl rfl ?_
  refine L_q (Q_pickF rfl rfl) rfl rfl rfl ?_
  refine L_q (Q_move rfl) rfl rfl rfl ?_
  refine L_q (Q_move rfl) rfl rfl rfl ?_
  refine L_q ((Q_gtr rfl rfl).as (v' := .bool false) (congrArg Value.bool (decide_eq_false (by omega)))) rfl rfl rfl ?_
  refine L_q (Q_pickF rfl rfl) rfl rfl rfl ?_
  refine JL_nil ?_
  refine seqQ_normal ?_
  refine J_condF rfl ?_
  refine J_skip ?_
  refine seqQ_normal ?_
  refine J_seq ?_
  refine J_region ?_
  refine L_q (Q_move rfl) rfl rfl rfl ?_
  refine L_q (Q_nilCheck rfl) rfl rfl rfl ?_
  refine L_q (Q_fa0 rfl) rfl rfl rfl ?_
  refine L_q (Q_ld 0 rfl rfl rfl rfl) rfl rfl rfl ?_
  refine L_q (Q_move rfl) rfl rfl rfl ?_
  refine L_o rfl rfl rfl (O_call [3,4] [0,1,2,5,6,7,8] (tdue_ok E t st.room tr tm st.tm now hrl (by omega)) rfl rfl ?_)
  rintro _ _ ⟨D, tm1, rfl, hrl1, rfl⟩
  refine JL.norm ?_
  refine L_q (Q_assign rfl) rfl rfl rfl ?_
  refine JL_nil ?_
  refine seqQ_normal ?_
  refine J_seq ?_
  generalize hbs : baseOf st.L = base at *
  generalize dueO st.tm now = due at *
  generalize dueL st.tm now = tm0 at *
  refine J_region ?_
  refine L_q (Q_assign rfl) rfl rfl rfl ?_
  refine JL_nil ?_
  refine seqQ_normal ?_
  refine J_seq ?_
  refine J_seq ?_
  refine J_region ?_
  refine L_q (Q_move rfl) rfl rfl rfl ?_
  refine L_q (Q_nilCheck rfl) rfl rfl rfl ?_
  refine L_q (Q_fa0 rfl) rfl rfl rfl ?_
  refine L_q (Q_ld 3 rfl rfl rfl rfl) rfl rfl rfl ?_
  refine L_q (Q_lenAt 7 rfl rfl) rfl rfl rfl ?_
  refine L_q (Q_move rfl) rfl rfl rfl ?_
  refine JL_nil ?_
  refine seqQ_normal ?_
  refine J_block ?_
  refine J.ent (Ent.mk fun _ _ h => (h.lay_nil tS true : Sat _ _ (slc tS true SV.nil [] :: _))) ?_
  refine J_loop (fun i : Nat × SV × List Op3 => i.1 ≤ st.op.length ∧ Rel i.2.2 (pollT st.room now tm0 (st.op.take i.1)))
    (fun i => [(0, .pointer (some ⟨p, 0, none⟩)), (1, .int .i64 now), (5, D.v), (6, i.2.1.v), (30, S.v), (31, .int .i64 (st.op.length : Int)), (32, .int .i64 (i.1 : Int))])
    (fun i => [slc tS true i.2.1 (outL base due (st.op.take i.1)), pipeC p w t r S T st.room st.sent st.owe, winC w 64 base wr, mpC mB wr m, timC t st.room tr, mpC mW tr i.2.2, mpC mH r st.held, slc tBd true S (opK st.op i.1), slc tS true T st.told, slc tZ true D due, F]) (fun i => st.op.length - i.1) (0, SV.nil, tm1) ⟨by simp, hrl1⟩ ⟨rfl, rfl, rfl, rfl, rfl, rfl, rfl, trivial⟩ (by simp only [opK_0]; exact Ent.re [0, 4, 5, 6, 1, 2, 7, 8, 9, 3, 10] rfl) ?_
  rintro ⟨k, O, tmk⟩ ⟨hk, hrk⟩
  dsimp only at hk hrk ⊢
  refine J_seq ?_
  refine J_region ?_
  refine L_q (Q_lss rfl rfl) rfl rfl rfl ?_
  refine JL_nil ?_
  refine seqQ_normal ?_
  refine J_seq ?_
  refine J_condD rfl (fun h1 => ?_) (fun h1 => ?_)
  · have hlt : k < st.op.length := by omega
    have hMl := opK_len st.op k
    have hkM : k < (opK st.op k).length := by omega
    have hMk := opK_get st.op k hlt hkM
    have hMs := opK_set st.op k hlt
    have hMe := opK_same st.op k hlt
    have hO := outL_succ base due st.op k hlt
    have hOl := outL_len base due (st.op.take k)
    rw [List.length_take] at hOl
    have hT := pollT_succ st.room now tm0 st.op k hlt
    have hTl := pollT_len st.room now hr2 (st.op.take k) tm0 (by omega)
    have hos := h.os st.op[k] (List.getElem_mem hlt)
    have hot := h.ot st.op[k] (List.getElem_mem hlt)
    generalize st.op[k] = b at *
    have hfo := pfour_ok E b.seq.toNat
    rw [show ((b.seq.toNat : Nat) : Int) = b.seq by omega] at hfo
    have hbz := bsz_ok E D due b.seq (by omega) hup
    have hfr := pframe_ok E p w t r wr base S T st.room st.sent st.owe (four b.seq.toNat) b.text (by simp [four]; omega)
    have hse := tsent_ok E t st.room tr tmk _ b.seq now hrk (by omega) hr2 (by omega)
    generalize outL base due (st.op.take k) = out at *
    generalize hO2 : outL base due (st.op.take (k + 1)) = out2 at *
    generalize pollT st.room now tm0 (st.op.take k) = TT at *
    generalize hT2 : pollT st.room now tm0 (st.op.take (k + 1)) = TT2 at *
    generalize opK st.op k = M at *
    generalize hM2 : opK st.op (k + 1) = M2 at *
    refine J_skip ?_
    refine seqQ_normal ?_
    refine J_seq ?_
    refine J_block ?_
    refine J_seq ?_
    refine J_region ?_
    refine L_q (Q_move rfl) rfl rfl rfl ?_
    refine L_q (Q_ixAt 7 k rfl rfl rfl rfl hkM rfl) rfl rfl rfl ?_
    refine L_q (Q_ldEAAt 7 k 0 (vs := bdV b) rfl rfl rfl rfl hkM (by decide) (by rw [hMk]; rfl)) rfl rfl rfl ?_
    refine L_o rfl rfl rfl (O_alloc fun b8 => ?_)
    refine L_q (Q_assign rfl) rfl rfl rfl ?_
    refine L_s rfl rfl (O_stW 0 rfl rfl rfl rfl ?_)
    refine JL.norm ?_
    refine JL_nil ?_
    refine seqQ_normal ?_
    refine J_seq ?_
    refine J_region ?_
    refine L_q (Q_move rfl) rfl rfl rfl ?_
    refine L_q (Q_fa0 rfl) rfl rfl rfl ?_
    refine L_q (Q_ld 0 rfl rfl rfl rfl) rfl rfl rfl ?_
    refine L_o rfl rfl rfl (O_call [10] [0,1,2,3,4,5,6,7,8,9,11] hbz rfl rfl ?_)
    rintro _ _ ⟨rfl, rfl⟩
    refine JL.norm ?_
    refine L_q (Q_move rfl) rfl rfl rfl ?_
    refine L_q (Q_extract (v := .int .i64 (posZ due b.seq : Int)) rfl rfl) rfl rfl rfl ?_
    refine L_q (Q_extract (v := .bool (decide (b.seq ∈ due))) rfl rfl) rfl rfl rfl ?_
    refine L_q (Q_assign rfl) rfl rfl rfl ?_
    refine L_q (Q_assign rfl) rfl rfl rfl ?_
    refine JL_nil ?_
    refine seqQ_normal ?_
    refine J_seq ?_
    refine J_seq ?_
    by_cases hdu : isDue due b = true
    · rw [if_pos hdu] at hO
      cases hf : b.fresh with
      | true =>
        rw [hf, if_pos rfl] at hT
        refine J_region ?_
        refine L_q (Q_fa0 rfl) rfl rfl rfl ?_
        refine L_q ((Q_ld 1 rfl rfl rfl rfl).as (v' := .bool true) (by rw [hf])) rfl rfl rfl ?_
        refine L_q ((Q_not rfl).as (v' := .bool false) rfl) rfl rfl rfl ?_
        refine L_q (Q_move rfl) rfl rfl rfl ?_
        refine L_n rfl rfl rfl ?_
        refine L_n rfl rfl rfl ?_
        refine L_q (Q_pickF rfl rfl) rfl rfl rfl ?_
        refine JL_nil ?_
        refine seqQ_normal ?_
        refine J_condF rfl ?_
        refine J_skip ?_
        refine seqQ_normal ?_
        refine J_seq ?_
        refine J_seq ?_
        refine J_region ?_
        refine L_q (Q_fa0 rfl) rfl rfl rfl ?_
        refine L_q ((Q_ld 1 rfl rfl rfl rfl).as (v' := .bool true) (by rw [hf])) rfl rfl rfl ?_
        refine JL_nil ?_
        refine seqQ_normal ?_
        refine J_condT rfl ?_
        refine J_seq ?_
        refine J_drawH [3,1] [0, 1, 2, 3, 4, 5, 6] (.quiet 0 (.quiet 1 (.quiet 2 (.quiet 3 (.quiet 4 (.quiet 5 (.quiet 6 (.loud 7 .done)))))))) Try.mixed (by kernel_rfl) (by kernel_rfl) (by repeat (first | exact retQ_noP | refine seqQ_noP ?_ | refine blockQ_noP ?_ | refine loopQ_noP ?_ | refine scopeQ_noP ?_ | (intro _ _ _ h; cases h.1))) ?_
        refine S_q (Ent.re [3,1] rfl) rfl (Q_move rfl) rfl rfl rfl ?_
        refine S_q (Ent.re [3,1] rfl) rfl (Q_nilCheck rfl) rfl rfl rfl ?_
        refine S_q (Ent.re [3,1] rfl) rfl (Q_fa0 rfl) rfl rfl rfl ?_
        refine S_q (Ent.re [3,1] rfl) rfl (Q_ld 0 rfl rfl rfl rfl) rfl rfl rfl ?_
        refine S_q (Ent.re [3,1] rfl) rfl (Q_fa0 rfl) rfl rfl rfl ?_
        refine S_q (Ent.re [3,1] rfl) rfl (Q_ld 1 rfl rfl rfl rfl) rfl rfl rfl ?_
        refine S_q (Ent.re [3,1] rfl) rfl (Q_move rfl) rfl rfl rfl ?_
        refine S_o rfl rfl rfl rfl (O_call [6,7] [0,1,2,3,4,5,8,9,10,11] hse rfl rfl ?_)
        (rintro _ _ ⟨tm3, rfl, hr3, rfl⟩; refine ⟨[], free_no (by kernel_rfl), ?_⟩)
        refine JS.norm ?_
        refine S_nil ?_
        refine seqQ_normal ?_
        refine J_region ?_
        refine L_q (Q_move rfl) rfl rfl rfl ?_
        refine L_q (Q_nilCheck rfl) rfl rfl rfl ?_
        refine L_q (Q_fa0 rfl) rfl rfl rfl ?_
        refine L_q (Q_ld 5 rfl rfl rfl rfl) rfl rfl rfl ?_
        refine L_q (Q_move rfl) rfl rfl rfl ?_
        refine L_q (Q_ixAt 9 k rfl rfl rfl rfl hkM rfl) rfl rfl rfl ?_
        refine L_q (Q_pfa rfl) rfl rfl rfl ?_
        refine L_s rfl rfl (O_stE 9 k 2 (clr b) rfl rfl rfl rfl rfl rfl (by simp [Value.oneCell', Value.cells]) hkM (by decide) (by rw [hMk]; rfl) ?_)
        refine JL.norm ?_
        refine JL_nil ?_
        refine seqQ_normal ?_
        rw [hMs]
        rw [← hT] at hr3
        refine J_drawH [3] [0, 1, 2, 3, 5, 6, 10] (.quiet 0 (.quiet 1 (.quiet 2 (.quiet 3 (.quiet 5 (.quiet 6 (.loud 4 (.loud 7 (.loud 8 (.loud 9 (.quiet 10 .done))))))))))) Try.mixed (by kernel_rfl) (by kernel_rfl) (by repeat (first | exact retQ_noP | refine seqQ_noP ?_ | refine blockQ_noP ?_ | refine loopQ_noP ?_ | refine scopeQ_noP ?_ | (intro _ _ _ h; cases h.1))) ?_
        refine S_q (Ent.re [3] rfl) rfl (Q_move rfl) rfl rfl rfl ?_
        refine S_q (Ent.re [3] rfl) rfl (Q_move rfl) rfl rfl rfl ?_
        refine S_q (Ent.re [3] rfl) rfl (Q_fa0 rfl) rfl rfl rfl ?_
        refine S_q (Ent.re [3] rfl) rfl (Q_ld 0 rfl rfl rfl rfl) rfl rfl rfl ?_
        refine S_q (Ent.re [3] rfl) rfl (Q_fa0 rfl) rfl rfl rfl ?_
        refine S_q (Ent.re [3] rfl) rfl (Q_ld 0 rfl rfl rfl rfl) rfl rfl rfl ?_
        refine S_o rfl rfl rfl rfl (O_call [] [0,1,2,3,4,5,6,7,8,9,10,11] hfo rfl rfl ?_)
        (rintro _ _ ⟨rfl, rfl⟩; refine ⟨_, fun _ => ⟨Ent.reN [3] rfl, Ent.refl _⟩, ?_⟩)
        refine JS.norm ?_
        refine S_o rfl rfl rfl rfl (O_call [5,6] [0,1,2,3,4,7,8,9,10,11] hfr rfl rfl ?_)
        (rintro _ _ ⟨rfl, rfl⟩; refine ⟨_, fun _ => ⟨Ent.reN [5] rfl, Ent.refl _⟩, ?_⟩)
        refine JS.norm ?_
        refine S_o rfl rfl rfl rfl (O_litP (τ := tS) (m := 1) (sz := 1) [bodyF base b] rfl rfl rfl rfl rfl rfl (by decide) (fun U => ⟨_, fun _ => ⟨Ent.reN [6] rfl, Ent.refl _⟩, ?_⟩))
        refine JS.norm ?_
        refine S_o rfl rfl rfl rfl (O_app (τ := tS) 7 rfl (fun w h => h.rd 0 rfl) rfl rfl rfl rfl (by simp only [List.length_singleton]; omega) (by decide) (fun O2 => ⟨_, fun _ => ⟨Ent.reN [6] rfl, Ent.refl _⟩, ?_⟩))
        refine JS.norm ?_
        refine S_q (Ent.re [6] rfl) rfl (Q_assign rfl) rfl rfl rfl ?_
        refine S_nil ?_
        refine blockQ_normal ?_
        refine seqQ_normal ?_
        refine J_region ?_
        refine L_q (Q_add rfl rfl (by first | exact IntWalk.i64_in _ (by omega) | exact IntWalk.u8_in _ (by omega) | exact IntWalk.u32_in _ (by omega) | exact IntWalk.u64_in _ (by omega) | rfl)) rfl rfl rfl ?_
        refine L_q (Q_move rfl) rfl rfl rfl ?_
        refine JL_nil ?_
        exact loopQ_normal (k + 1, O2, tm3) ⟨hlt, by rw [hT2]; exact hr3⟩ (by simp only; omega) ⟨rfl, rfl, rfl, rfl, rfl, rfl, rfl, trivial⟩ (by simp only [hM2, hO2, hO]; exact Ent.re [7, 1, 2, 8, 3, 4, 9, 10, 11, 5, 12] rfl)
      | false =>
        rw [hf, if_neg (by simp)] at hT
        have hme : decide (b.seq ∈ due) = true := by unfold isDue at hdu; rw [hf, Bool.false_or] at hdu; exact hdu
        have hMe2 := hMe hf
        subst hMe2
        refine J_region ?_
        refine L_q (Q_fa0 rfl) rfl rfl rfl ?_
        refine L_q ((Q_ld 1 rfl rfl rfl rfl).as (v' := .bool false) (by rw [hf])) rfl rfl rfl ?_
        refine L_q ((Q_not rfl).as (v' := .bool true) rfl) rfl rfl rfl ?_
        refine L_q (Q_move rfl) rfl rfl rfl ?_
        refine L_q (Q_move rfl) rfl rfl rfl ?_
        refine L_q ((Q_not rfl).as (v' := .bool false) (by rw [hme]; rfl)) rfl rfl rfl ?_
        refine L_q (Q_pickT rfl rfl) rfl rfl rfl ?_
        refine JL_nil ?_
        refine seqQ_normal ?_
        refine J_condF rfl ?_
        refine J_skip ?_
        refine seqQ_normal ?_
        refine J_seq ?_
        refine J_seq ?_
        refine J_region ?_
        refine L_q (Q_fa0 rfl) rfl rfl rfl ?_
        refine L_q ((Q_ld 1 rfl rfl rfl rfl).as (v' := .bool false) (by rw [hf])) rfl rfl rfl ?_
        refine JL_nil ?_
        refine seqQ_normal ?_
        refine J_condF rfl ?_
        refine J_skip ?_
        refine seqQ_normal ?_
        refine J_drawH [1] [0, 1, 2, 3, 5, 6, 10] (.quiet 0 (.quiet 1 (.quiet 2 (.quiet 3 (.quiet 5 (.quiet 6 (.loud 4 (.loud 7 (.loud 8 (.loud 9 (.quiet 10 .done))))))))))) Try.mixed (by kernel_rfl) (by kernel_rfl) (by repeat (first | exact retQ_noP | refine seqQ_noP ?_ | refine blockQ_noP ?_ | refine loopQ_noP ?_ | refine scopeQ_noP ?_ | (intro _ _ _ h; cases h.1))) ?_
        refine S_q (Ent.re [1] rfl) rfl (Q_move rfl) rfl rfl rfl ?_
        refine S_q (Ent.re [1] rfl) rfl (Q_move rfl) rfl rfl rfl ?_
        refine S_q (Ent.re [1] rfl) rfl (Q_fa0 rfl) rfl rfl rfl ?_
        refine S_q (Ent.re [1] rfl) rfl (Q_ld 0 rfl rfl rfl rfl) rfl rfl rfl ?_
        refine S_q (Ent.re [1] rfl) rfl (Q_fa0 rfl) rfl rfl rfl ?_
        refine S_q (Ent.re [1] rfl) rfl (Q_ld 0 rfl rfl rfl rfl) rfl rfl rfl ?_
        refine S_o rfl rfl rfl rfl (O_call [] [0,1,2,3,4,5,6,7,8,9,10,11] hfo rfl rfl ?_)
        (rintro _ _ ⟨rfl, rfl⟩; refine ⟨_, fun _ => ⟨Ent.reN [1] rfl, Ent.refl _⟩, ?_⟩)
        refine JS.norm ?_
        refine S_o rfl rfl rfl rfl (O_call [3,4] [0,1,2,5,6,7,8,9,10,11] hfr rfl rfl ?_)
        (rintro _ _ ⟨rfl, rfl⟩; refine ⟨_, fun _ => ⟨Ent.reN [3] rfl, Ent.refl _⟩, ?_⟩)
        refine JS.norm ?_
        refine S_o rfl rfl rfl rfl (O_litP (τ := tS) (m := 1) (sz := 1) [bodyF base b] rfl rfl rfl rfl rfl rfl (by decide) (fun U => ⟨_, fun _ => ⟨Ent.reN [4] rfl, Ent.refl _⟩, ?_⟩))
        refine JS.norm ?_
        refine S_o rfl rfl rfl rfl (O_app (τ := tS) 5 rfl (fun w h => h.rd 0 rfl) rfl rfl rfl rfl (by simp only [List.length_singleton]; omega) (by decide) (fun O2 => ⟨_, fun _ => ⟨Ent.reN [4] rfl, Ent.refl _⟩, ?_⟩))
        refine JS.norm ?_
        refine S_q (Ent.re [4] rfl) rfl (Q_assign rfl) rfl rfl rfl ?_
        refine S_nil ?_
        refine blockQ_normal ?_
        refine seqQ_normal ?_
        refine J_region ?_
        refine L_q (Q_add rfl rfl (by first | exact IntWalk.i64_in _ (by omega) | exact IntWalk.u8_in _ (by omega) | exact IntWalk.u32_in _ (by omega) | exact IntWalk.u64_in _ (by omega) | rfl)) rfl rfl rfl ?_
        refine L_q (Q_move rfl) rfl rfl rfl ?_
        refine JL_nil ?_
        rw [← hT] at hrk
        exact loopQ_normal (k + 1, O2, tmk) ⟨hlt, by rw [hT2]; exact hrk⟩ (by simp only; omega) ⟨rfl, rfl, rfl, rfl, rfl, rfl, rfl, trivial⟩ (by simp only [hM2, hO2, hO]; exact Ent.re [5, 1, 2, 6, 7, 8, 9, 10, 11, 3, 12] rfl)
    · rw [if_neg hdu, List.append_nil] at hO
      unfold isDue at hdu
      have hf : b.fresh = false := by cases hx : b.fresh with
        | false => rfl
        | true => rw [hx, Bool.true_or] at hdu; exact absurd rfl hdu
      have hme : decide (b.seq ∈ due) = false := by cases hx : decide (b.seq ∈ due) with
        | false => rfl
        | true => rw [hx, Bool.or_true] at hdu; exact absurd rfl hdu
      rw [hf, if_neg (by simp)] at hT
      have hMe2 := hMe hf
      subst hMe2
      refine J_region ?_
      refine L_q (Q_fa0 rfl) rfl rfl rfl ?_
      refine L_q ((Q_ld 1 rfl rfl rfl rfl).as (v' := .bool false) (by rw [hf])) rfl rfl rfl ?_
      refine L_q ((Q_not rfl).as (v' := .bool true) rfl) rfl rfl rfl ?_
      refine L_q (Q_move rfl) rfl rfl rfl ?_
      refine L_q (Q_move rfl) rfl rfl rfl ?_
      refine L_q ((Q_not rfl).as (v' := .bool true) (by rw [hme]; rfl)) rfl rfl rfl ?_
      refine L_q (Q_pickT rfl rfl) rfl rfl rfl ?_
      refine JL_nil ?_
      refine seqQ_normal ?_
      refine J_condT rfl ?_
      refine J_exit ?_
      refine seqQ_exit ?_
      refine blockQ_hit ?_
      refine seqQ_normal ?_
      refine J_region ?_
      refine L_q (Q_add rfl rfl (by first | exact IntWalk.i64_in _ (by omega) | exact IntWalk.u8_in _ (by omega) | exact IntWalk.u32_in _ (by omega) | exact IntWalk.u64_in _ (by omega) | rfl)) rfl rfl rfl ?_
      refine L_q (Q_move rfl) rfl rfl rfl ?_
      refine JL_nil ?_
      rw [← hT] at hrk
      exact loopQ_normal (k + 1, O, tmk) ⟨hlt, by rw [hT2]; exact hrk⟩ (by simp only; omega) ⟨rfl, rfl, rfl, rfl, rfl, rfl, rfl, trivial⟩ (by simp only [hM2, hO2, hO]; exact Ent.re [2, 3, 4, 5, 6, 7, 8, 9, 10, 0, 11] rfl)
  · obtain rfl : k = st.op.length := by omega
    rw [List.take_length] at hrk
    rw [List.take_length, opK_n]
    have hOl := outL_len base due st.op
    have hfr := pframe_ok E p w t r wr base S T st.room st.sent st.owe [] [] (by simp)
    rw [hpS, hpO]
    generalize outL base due st.op = out at *
    subst hbs
    by_cases h0 : out = []
    · subst h0
      cases how : st.owe with
      | true =>
        rw [if_pos ⟨rfl, rfl⟩]
        rw [how] at hfr
        refine J_exit ?_
        refine seqQ_exit ?_
        refine loopQ_exit ?_
        refine blockQ_hit ?_
        refine seqQ_normal ?_
        refine J_seq ?_
        refine J_seq ?_
        refine J_region ?_
        refine L_q (Q_move rfl) rfl rfl rfl ?_
        refine L_q (Q_lenAt 0 rfl rfl) rfl rfl rfl ?_
        refine L_q ((Q_eql rfl rfl).as (v' := .bool true) rfl) rfl rfl rfl ?_
        refine L_q (Q_move rfl) rfl rfl rfl ?_
        refine L_q (Q_move rfl) rfl rfl rfl ?_
        refine L_q (Q_nilCheck rfl) rfl rfl rfl ?_
        refine L_q (Q_fa0 rfl) rfl rfl rfl ?_
        refine L_q (Q_ld 1 rfl rfl rfl rfl) rfl rfl rfl ?_
        refine L_q (Q_pickT rfl rfl) rfl rfl rfl ?_
        refine JL_nil ?_
        refine seqQ_normal ?_
        refine J_condT rfl ?_
        refine J_region ?_
        refine L_q (Q_move rfl) rfl rfl rfl ?_
        refine L_q (Q_move rfl) rfl rfl rfl ?_
        refine L_o rfl rfl rfl (O_call [1,2] [0,3,4,5,6,7,8,9,10] hfr rfl rfl ?_)
        rintro _ _ ⟨rfl, rfl⟩
        refine JL.norm ?_
        refine L_o rfl rfl rfl (O_litP (τ := tS) (m := 1) (sz := 1) [frm (baseOf st.L) [] []] rfl rfl rfl rfl rfl rfl (by decide) (fun U => ?_))
        refine JL.norm ?_
        refine L_o rfl rfl rfl (O_app (τ := tS) 3 rfl (fun w h => h.rd 0 rfl) rfl rfl rfl rfl (by simp) (by decide) (fun O2 => ?_))
        refine JL.norm ?_
        refine L_q (Q_assign rfl) rfl rfl rfl ?_
        refine JL_nil ?_
        refine seqQ_normal ?_
        refine J_seq ?_
        refine J_region ?_
        refine L_q (Q_move rfl) rfl rfl rfl ?_
        refine L_q (Q_nilCheck rfl) rfl rfl rfl ?_
        refine L_q (Q_fa0 rfl) rfl rfl rfl ?_
        refine L_s rfl rfl (O_st1 1 rfl rfl rfl rfl rfl ?_)
        refine JL.norm ?_
        refine JL_nil ?_
        refine seqQ_normal ?_
        refine J_seq ?_
        refine J_region ?_
        refine L_q (Q_move rfl) rfl rfl rfl ?_
        refine L_q (Q_assign rfl) rfl rfl rfl ?_
        refine JL_nil ?_
        refine seqQ_normal ?_
        refine J_ret ?_
        refine retQ_ret _ [pipeA p _, slc tS true O2 [frm (baseOf st.L) [] []]] (.cons (RV_tmp rfl) .nil) ⟨O2, rfl, rfl⟩ ?_
        exact (Ent.re [1, 2, 4, 5, 6, 7, 8, 9, 3, 11] rfl).trans (Ent.pipe (st := { st with tm := pollT st.room now tm0 st.op, op := st.op.map clr, owe := false }) hb hrk)
      | false =>
        rw [if_neg (by simp)]
        refine J_exit ?_
        refine seqQ_exit ?_
        refine loopQ_exit ?_
        refine blockQ_hit ?_
        refine seqQ_normal ?_
        refine J_seq ?_
        refine J_seq ?_
        refine J_region ?_
        refine L_q (Q_move rfl) rfl rfl rfl ?_
        refine L_q (Q_lenAt 0 rfl rfl) rfl rfl rfl ?_
        refine L_q ((Q_eql rfl rfl).as (v' := .bool true) rfl) rfl rfl rfl ?_
        refine L_q (Q_move rfl) rfl rfl rfl ?_
        refine L_q (Q_move rfl) rfl rfl rfl ?_
        refine L_q (Q_nilCheck rfl) rfl rfl rfl ?_
        refine L_q (Q_fa0 rfl) rfl rfl rfl ?_
        refine L_q (Q_ld 1 rfl rfl rfl rfl) rfl rfl rfl ?_
        refine L_q (Q_pickT rfl rfl) rfl rfl rfl ?_
        refine JL_nil ?_
        refine seqQ_normal ?_
        refine J_condF rfl ?_
        refine J_skip ?_
        refine seqQ_normal ?_
        refine J_seq ?_
        refine J_region ?_
        refine L_q (Q_move rfl) rfl rfl rfl ?_
        refine L_q (Q_nilCheck rfl) rfl rfl rfl ?_
        refine L_q (Q_fa0 rfl) rfl rfl rfl ?_
        refine L_s rfl rfl (O_st1 1 rfl rfl rfl rfl rfl ?_)
        refine JL.norm ?_
        refine JL_nil ?_
        refine seqQ_normal ?_
        refine J_seq ?_
        refine J_region ?_
        refine L_q (Q_move rfl) rfl rfl rfl ?_
        refine L_q (Q_assign rfl) rfl rfl rfl ?_
        refine JL_nil ?_
        refine seqQ_normal ?_
        refine J_ret ?_
        refine retQ_ret _ [pipeA p _, slc tS true O []] (.cons (RV_tmp rfl) .nil) ⟨O, rfl, rfl⟩ ?_
        exact (Ent.re [1, 2, 3, 4, 5, 6, 7, 8, 0, 10] rfl).trans (Ent.pipe (st := { st with tm := pollT st.room now tm0 st.op, op := st.op.map clr, owe := false }) hb hrk)
    · rw [if_neg (fun h => h0 h.1)]
      have hpos := List.length_pos_iff.2 h0
      refine J_exit ?_
      refine seqQ_exit ?_
      refine loopQ_exit ?_
      refine blockQ_hit ?_
      refine seqQ_normal ?_
      refine J_seq ?_
      refine J_seq ?_
      refine J_region ?_
      refine L_q (Q_move rfl) rfl rfl rfl ?_
      refine L_q (Q_lenAt 0 rfl rfl) rfl rfl rfl ?_
      refine L_q ((Q_eql rfl rfl).as (v' := .bool false) (congrArg Value.bool (decide_eq_false (by omega)))) rfl rfl rfl ?_
      refine L_q (Q_move rfl) rfl rfl rfl ?_
      refine L_n rfl rfl rfl ?_
      refine L_n rfl rfl rfl ?_
      refine L_n rfl rfl rfl ?_
      refine L_n rfl rfl rfl ?_
      refine L_q (Q_pickF rfl rfl) rfl rfl rfl ?_
      refine JL_nil ?_
      refine seqQ_normal ?_
      refine J_condF rfl ?_
      refine J_skip ?_
      refine seqQ_normal ?_
      refine J_seq ?_
      refine J_region ?_
      refine L_q (Q_move rfl) rfl rfl rfl ?_
      refine L_q (Q_nilCheck rfl) rfl rfl rfl ?_
      refine L_q (Q_fa0 rfl) rfl rfl rfl ?_
      refine L_s rfl rfl (O_st1 1 rfl rfl rfl rfl rfl ?_)
      refine JL.norm ?_
      refine JL_nil ?_
      refine seqQ_normal ?_
      refine J_seq ?_
      refine J_region ?_
      refine L_q (Q_move rfl) rfl rfl rfl ?_
      refine L_q (Q_assign rfl) rfl rfl rfl ?_
      refine JL_nil ?_
      refine seqQ_normal ?_
      refine J_ret ?_
      refine retQ_ret _ [pipeA p _, slc tS true O out] (.cons (RV_tmp rfl) .nil) ⟨O, rfl, rfl⟩ ?_
      exact (Ent.re [1, 2, 3, 4, 5, 6, 7, 8, 0, 10] rfl).trans (Ent.pipe (st := { st with tm := pollT st.room now tm0 st.op, op := st.op.map clr, owe := false }) hb hrk)
end Go.Proofs
