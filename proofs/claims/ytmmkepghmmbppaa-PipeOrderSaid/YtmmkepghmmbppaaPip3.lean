/- A pipe: new, a body sent, what was told, what is open. -/
import Derived.Test.YtmmkepghmmbppaaPip2
import Derived.Test.YtmmkepghmmbppaaSl16
set_option autoImplicit false
namespace Go.Proofs
open Go.SL
structure Gp where
  w : Nat
  wr : Nat
  t : Nat
  tr : Nat
  r : Nat
  S : SV
  T : SV
  m : List (Int × Bool)
  tm : List Op3
structure PG (st : Ps) (g : Gp) : Prop where
  b : Beyond (baseOf st.L) g.m st.L
  r : Rel g.tm st.tm
abbrev pipeL (p : Nat) (st : Ps) (g : Gp) : List HProp := [pipeC p g.w g.t g.r g.S g.T st.room st.sent st.owe, winC g.w 64 (baseOf st.L) g.wr, mpC mB g.wr g.m, timC g.t st.room g.tr, mpC mW g.tr g.tm, mpC mH g.r st.held, slc tBd true g.S st.op, slc tS true g.T st.told]
def pipeA (p : Nat) (st : Ps) : HProp := hex fun g : Gp => star (pur (PG st g)) (stars (pipeL p st g))
theorem Sat.pipe_out {E w : World} {p : Nat} {st : Ps} {L : List HProp} (h : Sat E w (pipeA p st :: L)) : ∃ g : { g : Gp // PG st g }, Sat E w (pipeL p st g.1 ++ L) := by
  obtain ⟨g, hg⟩ := h.ex
  obtain ⟨hm, h2⟩ := hg.star.fact
  refine ⟨⟨g, hm⟩, ?_⟩
  have h3 := h2.rot (A := [stars (pipeL p st g)]) (B := L)
  have h4 := h3.unfold
  exact Sat.rot (A := L) h4
theorem Ent.pipe_in {p : Nat} {st : Ps} {g : Gp} {L : List HProp} (hm : PG st g) : Ent (pipeL p st g ++ L) (pipeA p st :: L) := fun E w h => by
  have h1 := Sat.rot (A := pipeL p st g) (B := L) h
  have h2 := h1.fold
  have h3 : Sat E w (stars (pipeL p st g) :: L) := Sat.rot (A := L) h2
  have h4 : Sat E w (pur (PG st g) :: stars (pipeL p st g) :: L) := h3.lay fun _ => hm
  exact (h4.mkstar).mkex (f := fun g : Gp => star (pur (PG st g)) (stars (pipeL p st g))) g
theorem J.pipe {P : Program} {E : World} {n : Nat} {c : Code} {Q : Post} {ρ : Env} {p : Nat} {st : Ps} {L : List HProp} (h : ∀ w wr t tr r S T m tm, Beyond (baseOf st.L) m st.L → Rel tm st.tm → J P E n c Q ρ (pipeC p w t r S T st.room st.sent st.owe :: winC w 64 (baseOf st.L) wr :: mpC mB wr m :: timC t st.room tr :: mpC mW tr tm :: mpC mH r st.held :: slc tBd true S st.op :: slc tS true T st.told :: L)) : J P E n c Q ρ (Go.Proofs.pipeA p st :: L) :=
  J.open (fun _ hs => Sat.pipe_out hs) fun ⟨g, hg⟩ => h g.w g.wr g.t g.tr g.r g.S g.T g.m g.tm hg.b hg.r
theorem Ent.pipe {p w wr t tr r : Nat} {S T : SV} {m : List (Int × Bool)} {tm : List Op3} {st : Ps} {L : List HProp} (hb : Beyond (baseOf st.L) m st.L) (hr : Rel tm st.tm) : Ent (pipeC p w t r S T st.room st.sent st.owe :: winC w 64 (baseOf st.L) wr :: mpC mB wr m :: timC t st.room tr :: mpC mW tr tm :: mpC mH r st.held :: slc tBd true S st.op :: slc tS true T st.told :: L) (pipeA p st :: L) :=
  Ent.pipe_in (g := ⟨w, wr, t, tr, r, S, T, m, tm⟩) ⟨hb, hr⟩
theorem winSize_mm (z : Int) : (winSize z : Int) = min (max z 1) 64 := by unfold winSize; omega
theorem winSize_id (z : Int) : winSize (winSize z : Int) = winSize z := by
  have h1 := winSize_mm z
  have h2 := winSize_mm (winSize z : Int)
  omega
theorem winSize_rng (z : Int) : 1 ≤ winSize z ∧ winSize z ≤ 64 := by have := winSize_mm z; omega
theorem send_2 {st : Ps} {s : By} (h : 4000 < s.length) : sendE st s = 2 ∧ sendS st s = st := by
  have e : sendE st s = 2 := by unfold sendE; rw [if_pos h]
  exact ⟨e, by unfold sendS; rw [e]; rfl⟩
theorem send_7 {st : Ps} {s : By} (h : ¬ 4000 < s.length) (h2 : st.room ≤ st.op.length) : sendE st s = 7 ∧ sendS st s = st := by
  have e : sendE st s = 7 := by unfold sendE; rw [if_neg h, if_pos h2]
  exact ⟨e, by unfold sendS; rw [e]; rfl⟩
theorem send_0 {st : Ps} {s : By} (h : ¬ 4000 < s.length) (h2 : ¬ st.room ≤ st.op.length) : sendE st s = 0 ∧ sendS st s = { st with op := st.op ++ [⟨st.sent, s, true⟩], sent := st.sent + 1 } := by
  have e : sendE st s = 0 := by unfold sendE; rw [if_neg h, if_neg h2]
  exact ⟨e, by unfold sendS; rw [if_pos e]⟩
attribute [local irreducible] J JL QOp JOp seqQ blockQ loopQ retQ slc cel hex star pur stars Does RV Ent pAt scopeQ
attribute [local irreducible] mpC pipeA
theorem ppnew_ok (E : World) (z : Int) : Does Try.prog E 8 [.int .i64 z] [] fun v L => ∃ p : Nat, v = .pointer (some ⟨p, 0, none⟩) ∧ L = [pipeA p (new (winSize z))] := by
  have hw := wnew_ok E 64
  rw [show winSize 64 = 64 by decide] at hw
  have ht := tnew_ok E (winSize z : Int)
  rw [winSize_id] at ht
  have hz := winSize_mm z
  refine Does.of Try.func8 rfl Try.ntmps8 rfl rfl fun F => ?_
  refine J.norm ?_
  refine J_seq ?_
  refine J_region ?_
  refine L_q (Q_assign rfl) rfl rfl rfl ?_
  refine JL_nil ?_
  refine seqQ_normal ?_
  refine J_seq ?_
  refine J_region ?_
  refine L_q (Q_move rfl) rfl rfl rfl ?_
  refine L_q (Q_max2 rfl rfl) rfl rfl rfl ?_
  refine L_q ((Q_min2 rfl rfl).as (v' := .int .i64 (winSize z : Int)) (congrArg (Value.int .i64) (by omega))) rfl rfl rfl ?_
  refine L_q (Q_assign rfl) rfl rfl rfl ?_
  refine JL_nil ?_
  refine seqQ_normal ?_
  refine J_seq ?_
  refine J_region ?_
  refine L_o rfl rfl rfl (O_call [] [0] hw rfl rfl ?_)
  rintro _ _ ⟨w, wr, rfl, rfl⟩
  refine JL.norm ?_
  refine L_q (Q_move rfl) rfl rfl rfl ?_
  refine L_q (Q_move rfl) rfl rfl rfl ?_
  refine L_o rfl rfl rfl (O_call [] [0,1,2] ht rfl rfl ?_)
  rintro _ _ ⟨t, tr, rfl, rfl⟩
  refine JL.norm ?_
  refine L_o rfl rfl rfl (O_mnew mH (fun r => ?_))
  refine JL.norm ?_
  refine L_q (Q_build rfl) rfl rfl rfl ?_
  refine L_o rfl rfl rfl (O_box rfl fun b12 => ?_)
  refine L_q (Q_assign rfl) rfl rfl rfl ?_
  refine JL_nil ?_
  refine seqQ_normal ?_
  refine J_ret ?_
  refine retQ_ret _ [pipeA b12 (new (winSize z))] (.cons (RV_tmp rfl) .nil) ⟨b12, rfl, rfl⟩ ?_
  refine (Ent.mk fun _ _ h => ((h.lay_nil tS true).lay_nil tBd true : Sat _ _ (slc tBd true SV.nil [] :: slc tS true SV.nil [] :: _))).trans ?_
  exact (Ent.re [2, 6, 7, 4, 5, 3, 0, 1, 8] rfl).trans (Ent.pipe (st := new (winSize z)) (S := SV.nil) (T := SV.nil) Beyond.new Rel.new)
theorem psend_ok (E : World) (p : Nat) (st : Ps) (c : Nat) (s : By) (h : PV st c) (hc : c ≤ 100000) : Does Try.prog E 9 [.pointer (some ⟨p, 0, none⟩), str s] [pipeA p st] fun v L => v = .int .i64 (sendE st s) ∧ L = [pipeA p (sendS st s)] := by
  have hr2 := h.r2
  have hol := h.ol
  have hsl := h.sl
  refine Does.of Try.func9 rfl Try.ntmps9 rfl rfl fun F => ?_
  refine J.norm ?_
  refine J.pipe fun w wr t tr r S T m tm hb hrl => ?_
  refine J_seq ?_
  refine J_region ?_
  refine L_q (Q_assign rfl) rfl rfl rfl ?_
  refine JL_nil ?_
  refine seqQ_normal ?_
  refine J_seq ?_
  refine J_block ?_
  refine J_seq ?_
  refine J_region ?_
  refine L_q (Q_move rfl) rfl rfl rfl ?_
  refine L_q ((Q_peql rfl rfl).as (v' := .bool false) rfl) rfl rfl rfl ?_
  refine L_q (Q_assign rfl) rfl rfl rfl ?_
  refine JL_nil ?_
  refine seqQ_normal ?_
  refine J_condF rfl ?_
  refine J_seq ?_
  by_cases h4 : 4000 < s.length
  · obtain ⟨e1, e2⟩ := send_2 (st := st) h4
    rw [e1, e2]
    refine J_region ?_
    refine L_q (Q_move rfl) rfl rfl rfl ?_
    refine L_q (Q_slen rfl) rfl rfl rfl ?_
    refine L_q ((Q_gtr rfl rfl).as (v' := .bool true) (congrArg Value.bool (decide_eq_true (by omega)))) rfl rfl rfl ?_
    refine L_q (Q_assign rfl) rfl rfl rfl ?_
    refine JL_nil ?_
    refine seqQ_normal ?_
    refine J_condT rfl ?_
    refine J_seq ?_
    refine J_region ?_
    refine L_q (Q_assign rfl) rfl rfl rfl ?_
    refine JL_nil ?_
    refine seqQ_normal ?_
    refine J_ret ?_
    refine blockQ_ret ?_
    refine seqQ_ret ?_
    exact retQ_ret _ [pipeA p st] (.cons (RV_tmp rfl) .nil) ⟨rfl, rfl⟩ (Ent.pipe hb hrl)
  refine J_region ?_
  refine L_q (Q_move rfl) rfl rfl rfl ?_
  refine L_q (Q_slen rfl) rfl rfl rfl ?_
  refine L_q ((Q_gtr rfl rfl).as (v' := .bool false) (congrArg Value.bool (decide_eq_false (by omega)))) rfl rfl rfl ?_
  refine L_q (Q_assign rfl) rfl rfl rfl ?_
  refine JL_nil ?_
  refine seqQ_normal ?_
  refine J_condF rfl ?_
  refine J_seq ?_
  by_cases h7 : st.room ≤ st.op.length
  · obtain ⟨e1, e2⟩ := send_7 (st := st) h4 h7
    rw [e1, e2]
    refine J_drawH [0,6] [0, 1, 2, 3, 4, 5, 6, 7, 8, 9, 10] (.quiet 0 (.quiet 1 (.quiet 2 (.quiet 3 (.quiet 4 (.quiet 5 (.quiet 6 (.quiet 7 (.quiet 8 (.quiet 9 (.quiet 10 .done))))))))))) Try.mixed (by kernel_rfl) (by kernel_rfl) (by repeat (first | exact retQ_noP | refine seqQ_noP ?_ | refine blockQ_noP ?_ | refine loopQ_noP ?_ | refine scopeQ_noP ?_ | (intro _ _ _ h; cases h.1))) ?_
    refine S_q (Ent.re [0,6] rfl) rfl (Q_move rfl) rfl rfl rfl ?_
    refine S_q (Ent.re [0,6] rfl) rfl (Q_nilCheck rfl) rfl rfl rfl ?_
    refine S_q (Ent.re [0,6] rfl) rfl (Q_fa0 rfl) rfl rfl rfl ?_
    refine S_q (Ent.re [0,6] rfl) rfl (Q_ld 0 rfl rfl rfl rfl) rfl rfl rfl ?_
    refine S_q (Ent.re [0,6] rfl) rfl (Q_lenAt 1 rfl rfl) rfl rfl rfl ?_
    refine S_q (Ent.re [0,6] rfl) rfl (Q_move rfl) rfl rfl rfl ?_
    refine S_q (Ent.re [0,6] rfl) rfl (Q_nilCheck rfl) rfl rfl rfl ?_
    refine S_q (Ent.re [0,6] rfl) rfl (Q_fa0 rfl) rfl rfl rfl ?_
    refine S_q (Ent.re [0,6] rfl) rfl (Q_ld 0 rfl rfl rfl rfl) rfl rfl rfl ?_
    refine S_q (Ent.re [0,6] rfl) rfl ((Q_geq rfl rfl).as (v' := .bool true) (congrArg Value.bool (decide_eq_true (by omega)))) rfl rfl rfl ?_
    refine S_q (Ent.re [0,6] rfl) rfl (Q_assign rfl) rfl rfl rfl ?_
    refine S_nil ?_
    refine seqQ_normal ?_
    refine J_condT rfl ?_
    refine J_seq ?_
    refine J_region ?_
    refine L_q (Q_assign rfl) rfl rfl rfl ?_
    refine JL_nil ?_
    refine seqQ_normal ?_
    refine J_ret ?_
    refine blockQ_ret ?_
    refine seqQ_ret ?_
    exact retQ_ret _ [pipeA p st] (.cons (RV_tmp rfl) .nil) ⟨rfl, rfl⟩ (Ent.pipe hb hrl)
  · obtain ⟨e1, e2⟩ := send_0 (st := st) h4 h7
    rw [e1, e2]
    refine J_drawH [0,6] [0, 1, 2, 3, 4, 5, 6, 7, 8, 9, 10] (.quiet 0 (.quiet 1 (.quiet 2 (.quiet 3 (.quiet 4 (.quiet 5 (.quiet 6 (.quiet 7 (.quiet 8 (.quiet 9 (.quiet 10 .done))))))))))) Try.mixed (by kernel_rfl) (by kernel_rfl) (by repeat (first | exact retQ_noP | refine seqQ_noP ?_ | refine blockQ_noP ?_ | refine loopQ_noP ?_ | refine scopeQ_noP ?_ | (intro _ _ _ h; cases h.1))) ?_
    refine S_q (Ent.re [0,6] rfl) rfl (Q_move rfl) rfl rfl rfl ?_
    refine S_q (Ent.re [0,6] rfl) rfl (Q_nilCheck rfl) rfl rfl rfl ?_
    refine S_q (Ent.re [0,6] rfl) rfl (Q_fa0 rfl) rfl rfl rfl ?_
    refine S_q (Ent.re [0,6] rfl) rfl (Q_ld 0 rfl rfl rfl rfl) rfl rfl rfl ?_
    refine S_q (Ent.re [0,6] rfl) rfl (Q_lenAt 1 rfl rfl) rfl rfl rfl ?_
    refine S_q (Ent.re [0,6] rfl) rfl (Q_move rfl) rfl rfl rfl ?_
    refine S_q (Ent.re [0,6] rfl) rfl (Q_nilCheck rfl) rfl rfl rfl ?_
    refine S_q (Ent.re [0,6] rfl) rfl (Q_fa0 rfl) rfl rfl rfl ?_
    refine S_q (Ent.re [0,6] rfl) rfl (Q_ld 0 rfl rfl rfl rfl) rfl rfl rfl ?_
    refine S_q (Ent.re [0,6] rfl) rfl ((Q_geq rfl rfl).as (v' := .bool false) (congrArg Value.bool (decide_eq_false (by omega)))) rfl rfl rfl ?_
    refine S_q (Ent.re [0,6] rfl) rfl (Q_assign rfl) rfl rfl rfl ?_
    refine S_nil ?_
    refine seqQ_normal ?_
    refine J_condF rfl ?_
    refine J_skip ?_
    refine blockQ_normal ?_
    refine seqQ_normal ?_
    refine J_seq ?_
    refine J_drawH [0] [0, 1, 2, 3, 4, 5, 6, 7, 8, 9, 10, 13, 14] (.quiet 0 (.quiet 1 (.quiet 2 (.quiet 3 (.quiet 4 (.quiet 5 (.quiet 6 (.quiet 7 (.quiet 8 (.quiet 9 (.quiet 10 (.loud 11 (.loud 12 (.quiet 13 (.quiet 14 (.loud 15 .done)))))))))))))))) Try.mixed (by kernel_rfl) (by kernel_rfl) (by repeat (first | exact retQ_noP | refine seqQ_noP ?_ | refine blockQ_noP ?_ | refine loopQ_noP ?_ | refine scopeQ_noP ?_ | (intro _ _ _ h; cases h.1))) ?_
    refine S_q (Ent.re [0] rfl) rfl (Q_move rfl) rfl rfl rfl ?_
    refine S_q (Ent.re [0] rfl) rfl (Q_move rfl) rfl rfl rfl ?_
    refine S_q (Ent.re [0] rfl) rfl (Q_nilCheck rfl) rfl rfl rfl ?_
    refine S_q (Ent.re [0] rfl) rfl (Q_fa0 rfl) rfl rfl rfl ?_
    refine S_q (Ent.re [0] rfl) rfl (Q_ld 0 rfl rfl rfl rfl) rfl rfl rfl ?_
    refine S_q (Ent.re [0] rfl) rfl (Q_move rfl) rfl rfl rfl ?_
    refine S_q (Ent.re [0] rfl) rfl (Q_nilCheck rfl) rfl rfl rfl ?_
    refine S_q (Ent.re [0] rfl) rfl (Q_fa0 rfl) rfl rfl rfl ?_
    refine S_q (Ent.re [0] rfl) rfl (Q_ld 0 rfl rfl rfl rfl) rfl rfl rfl ?_
    refine S_q (Ent.re [0] rfl) rfl (Q_move rfl) rfl rfl rfl ?_
    refine S_q (Ent.re [0] rfl) rfl (Q_build rfl) rfl rfl rfl ?_
    refine S_o rfl rfl rfl rfl (O_litP (τ := tBd) (m := 1) (sz := 3) [⟨(st.sent : Int), s, true⟩] rfl rfl rfl rfl rfl rfl (by decide) (fun U => ⟨_, fun _ => ⟨Ent.reN [1] rfl, Ent.refl _⟩, ?_⟩))
    refine JS.norm ?_
    refine S_o rfl rfl rfl rfl (O_app (τ := tBd) 7 rfl (fun w h => h.rd 0 rfl) rfl rfl rfl rfl (by simp only [List.length_singleton]; omega) (by decide) (fun S2 => ⟨_, fun _ => ⟨Ent.reN [1] rfl, Ent.refl _⟩, ?_⟩))
    refine JS.norm ?_
    refine S_q (Ent.re [1] rfl) rfl (Q_nilCheck rfl) rfl rfl rfl ?_
    refine S_q (Ent.re [1] rfl) rfl (Q_fa0 rfl) rfl rfl rfl ?_
    refine S_s rfl rfl rfl (O_st1 1 rfl rfl rfl rfl rfl ⟨[], free_no (by kernel_rfl), ?_⟩)
    refine JS.norm ?_
    refine S_nil ?_
    refine seqQ_normal ?_
    refine J_seq ?_
    refine J_region ?_
    refine L_q (Q_move rfl) rfl rfl rfl ?_
    refine L_q (Q_nilCheck rfl) rfl rfl rfl ?_
    refine L_q (Q_fa0 rfl) rfl rfl rfl ?_
    refine L_q (Q_ld 1 rfl rfl rfl rfl) rfl rfl rfl ?_
    refine L_q (Q_add rfl rfl (by first | exact IntWalk.i64_in _ (by omega) | exact IntWalk.u8_in _ (by omega) | exact IntWalk.u32_in _ (by omega) | exact IntWalk.u64_in _ (by omega) | rfl)) rfl rfl rfl ?_
    refine L_q (Q_nilCheck rfl) rfl rfl rfl ?_
    refine L_q (Q_fa0 rfl) rfl rfl rfl ?_
    refine L_s rfl rfl (O_st1 1 rfl rfl rfl rfl rfl ?_)
    refine JL.norm ?_
    refine JL_nil ?_
    refine seqQ_normal ?_
    refine J_seq ?_
    refine J_region ?_
    refine L_q (Q_assign rfl) rfl rfl rfl ?_
    refine JL_nil ?_
    refine seqQ_normal ?_
    refine J_ret ?_
    exact retQ_ret _ [pipeA p { st with op := st.op ++ [⟨st.sent, s, true⟩], sent := st.sent + 1 }] (.cons (RV_tmp rfl) .nil) ⟨rfl, rfl⟩ ((Ent.re [1, 2, 3, 4, 5, 6, 7, 8, 9] rfl).trans (Ent.pipe (st := { st with op := st.op ++ [⟨st.sent, s, true⟩], sent := st.sent + 1 }) hb hrl))
theorem ptold_ok (E : World) (p : Nat) (st : Ps) (c : Nat) (h : PV st c) (hc : c ≤ 100000) : Does Try.prog E 12 [.pointer (some ⟨p, 0, none⟩)] [pipeA p st] fun v L => ∃ U : SV, v = U.v ∧ L = [pipeA p st, slc tS true U st.told] := by
  have hb1 := baseOf_le st.L
  have ht := h.told
  have hl := h.Ll
  refine Does.of Try.func12 rfl Try.ntmps12 rfl rfl fun F => ?_
  refine J.norm ?_
  refine J.pipe fun w wr t tr r S T m tm hb hrl => ?_
  refine J_seq ?_
  refine J_region ?_
  refine L_q (Q_assign rfl) rfl rfl rfl ?_
  refine JL_nil ?_
  refine seqQ_normal ?_
  refine J_seq ?_
  refine J_seq ?_
  refine J_region ?_
  refine L_q (Q_move rfl) rfl rfl rfl ?_
  refine L_q ((Q_peql rfl rfl).as (v' := .bool false) rfl) rfl rfl rfl ?_
  refine JL_nil ?_
  refine seqQ_normal ?_
  refine J_condF rfl ?_
  refine J_skip ?_
  refine seqQ_normal ?_
  refine J_seq ?_
  refine J_region ?_
  refine L_q (Q_move rfl) rfl rfl rfl ?_
  refine L_q (Q_nilCheck rfl) rfl rfl rfl ?_
  refine L_q (Q_fa0 rfl) rfl rfl rfl ?_
  refine L_q (Q_ld 0 rfl rfl rfl rfl) rfl rfl rfl ?_
  refine L_o rfl rfl rfl (O_call [7] [0,1,2,3,4,5,6,8] (sclone_ok E T st.told (by omega)) rfl rfl ?_)
  rintro _ _ ⟨U, rfl, rfl⟩
  refine JL.norm ?_
  refine L_q (Q_assign rfl) rfl rfl rfl ?_
  refine JL_nil ?_
  refine seqQ_normal ?_
  refine J_ret ?_
  exact retQ_ret _ [pipeA p st, slc tS true U st.told] (.cons (RV_tmp rfl) .nil) ⟨U, rfl, rfl⟩ ((Ent.re [2, 3, 4, 5, 6, 7, 8, 0, 1, 9] rfl).trans (Ent.pipe hb hrl))
theorem popen_ok (E : World) (p : Nat) (st : Ps) : Does Try.prog E 14 [.pointer (some ⟨p, 0, none⟩)] [pipeA p st] fun v L => v = .int .i64 (st.op.length : Int) ∧ L = [pipeA p st] := by
  refine Does.of Try.func14 rfl Try.ntmps14 rfl rfl fun F => ?_
  refine J.norm ?_
  refine J.pipe fun w wr t tr r S T m tm hb hrl => ?_
  refine J_seq ?_
  refine J_region ?_
  refine L_q (Q_assign rfl) rfl rfl rfl ?_
  refine JL_nil ?_
  refine seqQ_normal ?_
  refine J_seq ?_
  refine J_seq ?_
  refine J_region ?_
  refine L_q (Q_move rfl) rfl rfl rfl ?_
  refine L_q ((Q_peql rfl rfl).as (v' := .bool false) rfl) rfl rfl rfl ?_
  refine JL_nil ?_
  refine seqQ_normal ?_
  refine J_condF rfl ?_
  refine J_skip ?_
  refine seqQ_normal ?_
  refine J_seq ?_
  refine J_region ?_
  refine L_q (Q_move rfl) rfl rfl rfl ?_
  refine L_q (Q_nilCheck rfl) rfl rfl rfl ?_
  refine L_q (Q_fa0 rfl) rfl rfl rfl ?_
  refine L_q (Q_ld 0 rfl rfl rfl rfl) rfl rfl rfl ?_
  refine L_q (Q_lenAt 6 rfl rfl) rfl rfl rfl ?_
  refine L_q (Q_assign rfl) rfl rfl rfl ?_
  refine JL_nil ?_
  refine seqQ_normal ?_
  refine J_ret ?_
  exact retQ_ret _ [pipeA p st] (.cons (RV_tmp rfl) .nil) ⟨rfl, rfl⟩ (Ent.pipe hb hrl)
theorem pnext_ok (E : World) (p : Nat) (st : Ps) : Does Try.prog E 15 [.pointer (some ⟨p, 0, none⟩)] [pipeA p st] fun v L => v = .int .i64 (baseOf st.L : Int) ∧ L = [pipeA p st] := by
  refine Does.of Try.func15 rfl Try.ntmps15 rfl rfl fun F => ?_
  refine J.norm ?_
  refine J.pipe fun w wr t tr r S T m tm hb hrl => ?_
  refine J_seq ?_
  refine J_region ?_
  refine L_q (Q_assign rfl) rfl rfl rfl ?_
  refine JL_nil ?_
  refine seqQ_normal ?_
  refine J_seq ?_
  refine J_seq ?_
  refine J_region ?_
  refine L_q (Q_move rfl) rfl rfl rfl ?_
  refine L_q ((Q_peql rfl rfl).as (v' := .bool false) rfl) rfl rfl rfl ?_
  refine JL_nil ?_
  refine seqQ_normal ?_
  refine J_condF rfl ?_
  refine J_skip ?_
  refine seqQ_normal ?_
  refine J_seq ?_
  refine J_region ?_
  refine L_q (Q_move rfl) rfl rfl rfl ?_
  refine L_q (Q_nilCheck rfl) rfl rfl rfl ?_
  refine L_q (Q_fa0 rfl) rfl rfl rfl ?_
  refine L_q (Q_ld 0 rfl rfl rfl rfl) rfl rfl rfl ?_
  refine L_o rfl rfl rfl (O_call [1] [0,2,3,4,5,6,7,8] (wbase_ok E w 64 (baseOf st.L) wr) rfl rfl ?_)
  rintro _ _ ⟨rfl, rfl⟩
  refine JL.norm ?_
  refine L_q (Q_assign rfl) rfl rfl rfl ?_
  refine JL_nil ?_
  refine seqQ_normal ?_
  refine J_ret ?_
  exact retQ_ret _ [pipeA p st] (.cons (RV_tmp rfl) .nil) ⟨rfl, rfl⟩ ((Ent.re [1, 0, 2, 3, 4, 5, 6, 7, 8] rfl).trans (Ent.pipe hb hrl))
end Go.Proofs
