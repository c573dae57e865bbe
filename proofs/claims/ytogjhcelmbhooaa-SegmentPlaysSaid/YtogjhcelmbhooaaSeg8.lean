/- A log in files: an append. -/
import Derived.Test.YtogjhcelmbhooaaSeg7
set_option autoImplicit false
namespace Go.Proofs
open Go.SL
theorem doD_write (f : Fl) (t : List UInt8) (h : (text f.l).length + (8 + t.length) ≤ 8192) : doD f.d ⟨1, frame t, 0⟩ = ((putF f t).d, 0) := by
  unfold doD
  rw [if_pos rfl, if_neg (by have := frame_len t; simp only [Fl.d] at *; omega)]
  simp [putF, Fl.d, text_snoc]
attribute [local irreducible] J JL QOp JOp seqQ blockQ loopQ retQ slc cel hex star pur stars Does RV Ent pAt scopeQ
attribute [local irreducible] fileAt diskAt
theorem sappend_ok (E : World) (p size sure : Nat) (S : SV) (ps : List Fp) (t : List UInt8) (h64 : 64 ≤ size) (h8 : size ≤ 8192) (hps : ps.length ≤ 16) (hn : nextOf (ps.map (·.1)) ≤ 1000000) (hok : ∀ r ∈ ps, (text r.1.l).length ≤ 8192 ∧ r.1.s ≤ (text r.1.l).length) :
    Does Try.prog E 13 [.pointer (some ⟨p, 0, none⟩), str t] [segC p size sure S, slc tPf true S ps, fsC ps] fun v L => ∃ (S' : SV) (ps' : List Fp), v = .tuple #[.int .i64 ((appL ⟨size, sure, ps.map (·.1)⟩ t).2.1 : Int), .int .i64 (appL ⟨size, sure, ps.map (·.1)⟩ t).2.2] ∧
      ps'.map (·.1) = (appL ⟨size, sure, ps.map (·.1)⟩ t).1.fs ∧ L = [segC p size (appL ⟨size, sure, ps.map (·.1)⟩ t).1.sure S', slc tPf true S' ps', fsC ps'] := by
  obtain ⟨g, hg⟩ : ∃ g : Lg, g = ⟨size, sure, ps.map (·.1)⟩ := ⟨_, rfl⟩
  rw [← hg]
  have hgs : g.size = size := by rw [hg]
  have hgu : g.sure = sure := by rw [hg]
  have hgf : g.fs = ps.map (·.1) := by rw [hg]
  have hfr := frame_ok E t
  refine Does.of Try.func13 rfl Try.ntmps13 rfl rfl fun F => ?_
  refine J.norm ?_
  refine J_seq ?_
  refine J_region ?_
  refine L_q (Q_assign rfl) rfl rfl rfl ?_
  refine L_q (Q_assign rfl) rfl rfl rfl ?_
  refine JL_nil ?_
  refine seqQ_normal ?_
  refine J_seq ?_
  refine J_seq ?_
  refine J_region ?_
  refine L_q (Q_move rfl) rfl rfl rfl ?_
  refine L_q ((Q_peql rfl rfl).as (v' := .bool false) rfl) rfl rfl rfl ?_
  refine JL_nil ?_
  refine seqQ_normal ?_
  refine J_condF rfl ?_
  refine J_skip ?_
  refine seqQ_normal ?_
  refine J_seq ?_
  by_cases h1 : 4096 < t.length
  · rw [show frameV t = .tuple #[str [], .int .i64 2] by unfold frameV; rw [if_pos h1]] at hfr
    have e : appL g t = (g, 0, 2) := by unfold appL; rw [if_pos h1]
    rw [e]
    refine J_region ?_
    refine L_q (Q_move rfl) rfl rfl rfl ?_
    refine L_o rfl rfl rfl (O_call [] [0,1,2,3] hfr rfl rfl ?_)
    rintro _ _ ⟨rfl, rfl⟩
    refine JL.norm ?_
    refine L_q (Q_move rfl) rfl rfl rfl ?_
    refine L_q (Q_extract (v := str []) rfl rfl) rfl rfl rfl ?_
    refine L_q (Q_extract (v := .int .i64 2) rfl rfl) rfl rfl rfl ?_
    refine L_q (Q_assign rfl) rfl rfl rfl ?_
    refine L_q (Q_assign rfl) rfl rfl rfl ?_
    refine JL_nil ?_
    refine seqQ_normal ?_
    refine J_seq ?_
    refine J_block ?_
    refine J_seq ?_
    refine J_region ?_
    refine L_q (Q_move rfl) rfl rfl rfl ?_
    refine L_q ((Q_neq rfl rfl).as (v' := .bool true) rfl) rfl rfl rfl ?_
    refine L_q (Q_assign rfl) rfl rfl rfl ?_
    refine JL_nil ?_
    refine seqQ_normal ?_
    refine J_condT rfl ?_
    refine J_seq ?_
    refine J_region ?_
    refine L_q (Q_move rfl) rfl rfl rfl ?_
    refine L_q (Q_assign rfl) rfl rfl rfl ?_
    refine L_q (Q_assign rfl) rfl rfl rfl ?_
    refine JL_nil ?_
    refine seqQ_normal ?_
    refine J_ret ?_
    refine blockQ_ret ?_
    refine seqQ_ret ?_
    exact retQ_ret _ _ (.cons (RV_tmp rfl) (.cons (RV_tmp rfl) .nil)) ⟨S, ps, rfl, hgf.symm, by rw [hgu]⟩ (Ent.refl _)
  rw [show frameV t = .tuple #[str (frame t), .int .i64 0] by unfold frameV; rw [if_neg h1]] at hfr
  have hfl := frame_len t
  refine J_region ?_
  refine L_q (Q_move rfl) rfl rfl rfl ?_
  refine L_o rfl rfl rfl (O_call [] [0,1,2,3] hfr rfl rfl ?_)
  rintro _ _ ⟨rfl, rfl⟩
  refine JL.norm ?_
  refine L_q (Q_move rfl) rfl rfl rfl ?_
  refine L_q (Q_extract (v := str (frame t)) rfl rfl) rfl rfl rfl ?_
  refine L_q (Q_extract (v := .int .i64 0) rfl rfl) rfl rfl rfl ?_
  refine L_q (Q_assign rfl) rfl rfl rfl ?_
  refine L_q (Q_assign rfl) rfl rfl rfl ?_
  refine JL_nil ?_
  refine seqQ_normal ?_
  refine J_seq ?_
  refine J_block ?_
  refine J_seq ?_
  refine J_region ?_
  refine L_q (Q_move rfl) rfl rfl rfl ?_
  refine L_q ((Q_neq rfl rfl).as (v' := .bool false) rfl) rfl rfl rfl ?_
  refine L_q (Q_assign rfl) rfl rfl rfl ?_
  refine JL_nil ?_
  refine seqQ_normal ?_
  refine J_condF rfl ?_
  refine J_seq ?_
  by_cases h2 : size < 8 + t.length
  · have e : appL g t = (g, 0, 2) := by unfold appL; rw [if_neg h1, if_pos (by omega)]
    rw [e]
    refine J_region ?_
    refine L_q (Q_move rfl) rfl rfl rfl ?_
    refine L_q (Q_slen rfl) rfl rfl rfl ?_
    refine L_q (Q_move rfl) rfl rfl rfl ?_
    refine L_q (Q_nilCheck rfl) rfl rfl rfl ?_
    refine L_q (Q_fa0 rfl) rfl rfl rfl ?_
    refine L_q (Q_ld 0 rfl rfl rfl rfl) rfl rfl rfl ?_
    refine L_q ((Q_gtr rfl rfl).as (v' := .bool true) (congrArg Value.bool (decide_eq_true (by rw [hfl]; omega)))) rfl rfl rfl ?_
    refine L_q (Q_assign rfl) rfl rfl rfl ?_
    refine JL_nil ?_
    refine seqQ_normal ?_
    refine J_condT rfl ?_
    refine J_seq ?_
    refine J_region ?_
    refine L_q (Q_assign rfl) rfl rfl rfl ?_
    refine L_q (Q_assign rfl) rfl rfl rfl ?_
    refine JL_nil ?_
    refine seqQ_normal ?_
    refine J_ret ?_
    refine blockQ_ret ?_
    refine seqQ_ret ?_
    exact retQ_ret _ _ (.cons (RV_tmp rfl) (.cons (RV_tmp rfl) .nil)) ⟨S, ps, rfl, hgf.symm, by rw [hgu]⟩ (Ent.refl _)
  refine J_region ?_
  refine L_q (Q_move rfl) rfl rfl rfl ?_
  refine L_q (Q_slen rfl) rfl rfl rfl ?_
  refine L_q (Q_move rfl) rfl rfl rfl ?_
  refine L_q (Q_nilCheck rfl) rfl rfl rfl ?_
  refine L_q (Q_fa0 rfl) rfl rfl rfl ?_
  refine L_q (Q_ld 0 rfl rfl rfl rfl) rfl rfl rfl ?_
  refine L_q ((Q_gtr rfl rfl).as (v' := .bool false) (congrArg Value.bool (decide_eq_false (by rw [hfl]; omega)))) rfl rfl rfl ?_
  refine L_q (Q_assign rfl) rfl rfl rfl ?_
  refine JL_nil ?_
  refine seqQ_normal ?_
  refine J_condF rfl ?_
  refine J_seq ?_
  have hroom := room_ok E p size sure (8 + t.length) S ps hps (by omega) h8
  rw [← hg, ← hfl] at hroom
  rw [hfl] at hroom
  cases hb : roomB g (8 + t.length) with
  | true =>
    rw [hb] at hroom
    rcases last_cases ps with rfl | ⟨a, ⟨f, q⟩, rfl⟩
    · rw [hg] at hb; cases hb
    have hfit : (text f.l).length + (8 + t.length) ≤ size := by
      rw [hg] at hb; simpa [roomB] using hb
    have e : appL g t = (⟨size, sure, (a ++ [(putF f t, q)]).map (·.1)⟩, f.next, 0) := by
      unfold appL
      rw [if_neg h1, if_neg (by omega), if_pos hb, hgf, hgs, hgu]
      simp only [List.map_append, List.map_cons, List.map_nil, onLast_snoc, nextOf_snoc]
    rw [e]
    rw [List.map_append, List.map_cons, List.map_nil, nextOf_snoc] at hn
    have hfn : f.next ≤ 10000000 := Nat.le_trans hn (by decide)
    have hdw := doD_write f t (by omega)
    have hk2 := hok (f, q) (by simp)
    have hdo := fun dp => do_ok E dp f.d ⟨1, frame t, 0⟩ (Nat.two_pow_pos 64) ⟨hk2.2, Nat.le_trans hk2.1 (by decide)⟩
    rw [hdw] at hdo
    dsimp only at hdo
    have hel : (ends f.l).length ≤ 8192 := by rw [ends_len]; have := text_len f.l; omega
    have hlast := last_ok E p size sure S (a ++ [(f, q)]) hps
    rw [lastP_snoc] at hlast
    refine J_region ?_
    refine L_q (Q_move rfl) rfl rfl rfl ?_
    refine L_q (Q_move rfl) rfl rfl rfl ?_
    refine L_q ((Q_slen rfl).as (v' := .int .i64 ((8 + t.length : Nat) : Int)) (by rw [hfl])) rfl rfl rfl ?_
    refine L_o rfl rfl rfl (O_call [0,1,2] [3] hroom rfl rfl ?_)
    rintro _ _ ⟨rfl, rfl⟩
    refine JL.norm ?_
    refine L_q (Q_assign rfl) rfl rfl rfl ?_
    refine JL_nil ?_
    refine seqQ_normal ?_
    refine J_condT rfl ?_
    refine J_skip ?_
    refine blockQ_normal ?_
    refine seqQ_normal ?_
    refine J_seq ?_
    refine J_region ?_
    refine L_q (Q_move rfl) rfl rfl rfl ?_
    refine L_o rfl rfl rfl (O_call [0,1] [2,3] (hlast) rfl rfl ?_)
    rintro _ _ ⟨rfl, rfl⟩
    refine JL.norm ?_
    refine L_q (Q_assign rfl) rfl rfl rfl ?_
    refine JL_nil ?_
    refine seqQ_normal ?_
    refine J_seq ?_
    refine J.ent ((Ent.re [2, 0, 1, 3] rfl).trans (Ent.last_out fileAt a (f, q))) ?_
    refine J_region ?_
    refine L_q (Q_move rfl) rfl rfl rfl ?_
    refine L_o rfl rfl rfl (O_call [0] [1,2,3,4] (fnext_ok E f q hfn) rfl rfl ?_)
    rintro _ _ ⟨rfl, rfl⟩
    refine JL.norm ?_
    refine L_q (Q_assign rfl) rfl rfl rfl ?_
    refine JL_nil ?_
    refine seqQ_normal ?_
    refine J_seq ?_
    refine J_file fun S4 dp4 => ?_
    refine J_region ?_
    refine L_q (Q_move rfl) rfl rfl rfl ?_
    refine L_q (Q_nilCheck rfl) rfl rfl rfl ?_
    refine L_q (Q_fa0 rfl) rfl rfl rfl ?_
    refine L_q (Q_ld 0 rfl rfl rfl rfl) rfl rfl rfl ?_
    refine L_q (Q_move rfl) rfl rfl rfl ?_
    refine L_q (Q_build rfl) rfl rfl rfl ?_
    refine L_o rfl rfl rfl (O_call [2] [0,1,3,4,5,6] (hdo dp4) rfl rfl ?_)
    rintro _ _ ⟨rfl, rfl⟩
    refine JL.norm ?_
    refine JL_nil ?_
    refine seqQ_normal ?_
    refine J_seq ?_
    refine J_drawH [1] [0, 1, 2, 3, 4, 5, 6, 7, 8, 10, 13, 14] (.quiet 0 (.quiet 1 (.quiet 2 (.quiet 3 (.quiet 4 (.quiet 5 (.quiet 6 (.quiet 7 (.quiet 8 (.loud 9 (.quiet 10 (.loud 11 (.loud 12 (.quiet 13 (.quiet 14 (.loud 15 .done)))))))))))))))) Try.mixed (by kernel_rfl) (by kernel_rfl) (by repeat (first | exact retQ_noP | refine seqQ_noP ?_ | refine blockQ_noP ?_ | refine loopQ_noP ?_ | refine scopeQ_noP ?_)) ?_
    refine S_q (Ent.re [1] rfl) rfl (Q_move rfl) rfl rfl rfl ?_
    refine S_q (Ent.re [1] rfl) rfl (Q_move rfl) rfl rfl rfl ?_
    refine S_q (Ent.re [1] rfl) rfl (Q_nilCheck rfl) rfl rfl rfl ?_
    refine S_q (Ent.re [1] rfl) rfl (Q_fa0 rfl) rfl rfl rfl ?_
    refine S_q (Ent.re [1] rfl) rfl (Q_ld 0 rfl rfl rfl rfl) rfl rfl rfl ?_
    refine S_q (Ent.re [1] rfl) rfl (Q_move rfl) rfl rfl rfl ?_
    refine S_q (Ent.re [1] rfl) rfl (Q_nilCheck rfl) rfl rfl rfl ?_
    refine S_q (Ent.re [1] rfl) rfl (Q_fa0 rfl) rfl rfl rfl ?_
    refine S_q (Ent.re [1] rfl) rfl (Q_ld 0 rfl rfl rfl rfl) rfl rfl rfl ?_
    refine S_o rfl rfl rfl rfl (O_call [0] [1,2,3,4,5,6] (text_ok E dp4 (putF f t).d) rfl rfl ?_)
    (rintro _ _ ⟨rfl, rfl⟩; refine ⟨_, fun _ => ⟨Ent.reN [1] rfl, Ent.refl _⟩, ?_⟩)
    refine JS.norm ?_
    refine S_q (Ent.re [1] rfl) rfl (Q_slen rfl) rfl rfl rfl ?_
    refine S_o rfl rfl rfl rfl (O_litP (τ := tI) (m := 1) (sz := 1) [(text (f.l ++ [t])).length] rfl rfl rfl rfl rfl rfl (by decide) (fun S5 => ⟨_, fun _ => ⟨Ent.reN [2] rfl, Ent.refl _⟩, ?_⟩))
    refine JS.norm ?_
    refine S_o rfl rfl rfl rfl (O_app (τ := tI) 3 rfl (fun w h => h.rd 0 rfl) rfl rfl rfl rfl (by simp only [List.length_singleton]; omega) (by decide) (fun S6 => ⟨_, fun _ => ⟨Ent.reN [2] rfl, Ent.refl _⟩, ?_⟩))
    refine JS.norm ?_
    refine S_q (Ent.re [2] rfl) rfl (Q_nilCheck rfl) rfl rfl rfl ?_
    refine S_q (Ent.re [2] rfl) rfl (Q_fa0 rfl) rfl rfl rfl ?_
    refine S_s rfl rfl rfl (O_st1 2 rfl rfl rfl rfl rfl ⟨[], free_no (by kernel_rfl), ?_⟩)
    refine JS.norm ?_
    refine S_nil ?_
    refine seqQ_normal ?_
    refine J_seq ?_
    refine J_region ?_
    refine L_q (Q_move rfl) rfl rfl rfl ?_
    refine L_q (Q_assign rfl) rfl rfl rfl ?_
    refine L_q (Q_assign rfl) rfl rfl rfl ?_
    refine JL_nil ?_
    refine seqQ_normal ?_
    refine J_ret ?_
    rw [← ends_snoc]
    refine retQ_ret _ _ (.cons (RV_tmp rfl) (.cons (RV_tmp rfl) .nil)) ⟨S, a ++ [(putF f t, q)], rfl, rfl, rfl⟩ ?_
    rw [slc_onP a f (putF f t) q]
    exact ((Ent.re [2, 3, 1, 4, 5, 6, 7] rfl).trans (fileAt_mk (f := putF f t) rfl rfl rfl rfl)).trans ((Ent.last_in fileAt a (putF f t, q)).trans (Ent.re [1, 2, 0, 3] rfl))
  | false =>
    rw [hb] at hroom
    refine J_region ?_
    refine L_q (Q_move rfl) rfl rfl rfl ?_
    refine L_q (Q_move rfl) rfl rfl rfl ?_
    refine L_q ((Q_slen rfl).as (v' := .int .i64 ((8 + t.length : Nat) : Int)) (by rw [hfl])) rfl rfl rfl ?_
    refine L_o rfl rfl rfl (O_call [0,1,2] [3] hroom rfl rfl ?_)
    rintro _ _ ⟨rfl, rfl⟩
    refine JL.norm ?_
    refine L_q (Q_assign rfl) rfl rfl rfl ?_
    refine JL_nil ?_
    refine seqQ_normal ?_
    refine J_condF rfl ?_
    refine J_seq ?_
    by_cases h3 : 16 ≤ ps.length
    · have e : appL g t = (g, 0, 7) := by unfold appL; rw [if_neg h1, if_neg (by omega), if_neg (by rw [hb]; simp), if_pos (by rw [hgf, List.length_map]; exact h3)]
      rw [e]
      refine J_region ?_
      refine L_q (Q_move rfl) rfl rfl rfl ?_
      refine L_q (Q_nilCheck rfl) rfl rfl rfl ?_
      refine L_q (Q_fa0 rfl) rfl rfl rfl ?_
      refine L_q (Q_ld 0 rfl rfl rfl rfl) rfl rfl rfl ?_
      refine L_q (Q_lenAt 1 rfl rfl) rfl rfl rfl ?_
      refine L_q ((Q_geq rfl rfl).as (v' := .bool true) (congrArg Value.bool (decide_eq_true (by omega)))) rfl rfl rfl ?_
      refine L_q (Q_assign rfl) rfl rfl rfl ?_
      refine JL_nil ?_
      refine seqQ_normal ?_
      refine J_condT rfl ?_
      refine J_seq ?_
      refine J_region ?_
      refine L_q (Q_assign rfl) rfl rfl rfl ?_
      refine L_q (Q_assign rfl) rfl rfl rfl ?_
      refine JL_nil ?_
      refine seqQ_normal ?_
      refine J_ret ?_
      refine blockQ_ret ?_
      refine seqQ_ret ?_
      exact retQ_ret _ _ (.cons (RV_tmp rfl) (.cons (RV_tmp rfl) .nil)) ⟨S, ps, rfl, hgf.symm, by rw [hgu]⟩ (Ent.refl _)
    obtain ⟨n0, hn0⟩ : ∃ n0, n0 = nextOf (ps.map (·.1)) := ⟨_, rfl⟩
    obtain ⟨qs, hqs⟩ : ∃ qs, qs = onP ps syncF := ⟨_, rfl⟩
    obtain ⟨su, hsu⟩ : ∃ su, su = if ps = [] then sure else nextOf (ps.map (·.1)) := ⟨_, rfl⟩
    have hql : qs.length = ps.length := by rw [hqs, onP_len]
    have e : appL g t = (⟨size, su, qs.map (·.1) ++ [putF ⟨n0, [], 0⟩ t]⟩, n0, 0) := by
      unfold appL
      rw [if_neg h1, if_neg (by omega), if_neg (by rw [hb]; simp), if_neg (by rw [hgf, List.length_map]; exact h3)]
      have e1 : (syncL g).fs = qs.map (·.1) := by rw [hqs, onP_fst, ← hgf]; rfl
      have e2 : (syncL g).sure = su := by
        rw [hsu, hg]; simp only [syncL, List.map_eq_nil_iff]
      rw [e1, e2, hgs, hgf, ← hn0]
      simp [putF]
    rw [e]
    have hnx := snext_ok E p size sure S ps hps (Nat.le_trans hn (by decide))
    have hsy := sync_ok E p size sure S ps hps (Nat.le_trans hn (by decide)) hok
    rw [← hn0] at hnx
    rw [← hsu, ← hqs] at hsy
    refine J_region ?_
    refine L_q (Q_move rfl) rfl rfl rfl ?_
    refine L_q (Q_nilCheck rfl) rfl rfl rfl ?_
    refine L_q (Q_fa0 rfl) rfl rfl rfl ?_
    refine L_q (Q_ld 0 rfl rfl rfl rfl) rfl rfl rfl ?_
    refine L_q (Q_lenAt 1 rfl rfl) rfl rfl rfl ?_
    refine L_q ((Q_geq rfl rfl).as (v' := .bool false) (congrArg Value.bool (decide_eq_false (by omega)))) rfl rfl rfl ?_
    refine L_q (Q_assign rfl) rfl rfl rfl ?_
    refine JL_nil ?_
    refine seqQ_normal ?_
    refine J_condF rfl ?_
    refine J_seq ?_
    refine J_region ?_
    refine L_q (Q_move rfl) rfl rfl rfl ?_
    refine L_o rfl rfl rfl (O_call [0,1,2] [3] hnx rfl rfl ?_)
    rintro _ _ ⟨rfl, rfl⟩
    refine JL.norm ?_
    refine L_q (Q_assign rfl) rfl rfl rfl ?_
    refine JL_nil ?_
    refine seqQ_normal ?_
    refine J_seq ?_
    refine J_region ?_
    refine L_q (Q_move rfl) rfl rfl rfl ?_
    refine L_o rfl rfl rfl (O_call [0,1,2] [3] hsy rfl rfl ?_)
    rintro _ _ ⟨rfl, rfl⟩
    refine JL.norm ?_
    refine JL_nil ?_
    refine seqQ_normal ?_
    refine J_drawH [0] [0, 1, 2, 3, 4, 5, 7, 11, 12] (.quiet 0 (.quiet 1 (.quiet 2 (.quiet 3 (.quiet 4 (.quiet 5 (.loud 6 (.quiet 7 (.loud 8 (.loud 9 (.loud 10 (.quiet 11 (.quiet 12 (.loud 13 .done)))))))))))))) Try.mixed (by kernel_rfl) (by kernel_rfl) (by repeat (first | exact retQ_noP | refine seqQ_noP ?_ | refine blockQ_noP ?_ | refine loopQ_noP ?_ | refine scopeQ_noP ?_)) ?_
    refine S_q (Ent.re [0] rfl) rfl (Q_move rfl) rfl rfl rfl ?_
    refine S_q (Ent.re [0] rfl) rfl (Q_move rfl) rfl rfl rfl ?_
    refine S_q (Ent.re [0] rfl) rfl (Q_nilCheck rfl) rfl rfl rfl ?_
    refine S_q (Ent.re [0] rfl) rfl (Q_fa0 rfl) rfl rfl rfl ?_
    refine S_q (Ent.re [0] rfl) rfl (Q_ld 0 rfl rfl rfl rfl) rfl rfl rfl ?_
    refine S_q (Ent.re [0] rfl) rfl (Q_move rfl) rfl rfl rfl ?_
    refine S_o rfl rfl rfl rfl (O_call [] [0,1,2,3] (new_ok E) rfl rfl ?_)
    (rintro _ _ ⟨dp, rfl, rfl⟩; refine ⟨_, fun _ => ⟨Ent.reN [1] rfl, Ent.refl _⟩, ?_⟩)
    refine JS.norm ?_
    refine S_q (Ent.re [1] rfl) rfl (Q_build rfl) rfl rfl rfl ?_
    refine S_o rfl rfl rfl rfl (O_box rfl fun b30 => ⟨_, fun _ => ⟨Ent.reN [2] rfl, Ent.refl _⟩, ?_⟩)
    refine JS.norm ?_
    refine S_o rfl rfl rfl rfl (O_litP (τ := tPf) (m := 1) (sz := 1) [(⟨n0, [], 0⟩, b30)] rfl rfl rfl rfl rfl rfl (by decide) (fun S1 => ⟨_, fun _ => ⟨Ent.reN [3] rfl, Ent.refl _⟩, ?_⟩))
    refine JS.norm ?_
    refine S_o rfl rfl rfl rfl (O_app (τ := tPf) 4 rfl (fun w h => h.rd 0 rfl) rfl rfl rfl rfl (by simp only [List.length_singleton]; omega) (by decide) (fun S2 => ⟨_, fun _ => ⟨Ent.reN [3] rfl, Ent.refl _⟩, ?_⟩))
    refine JS.norm ?_
    refine S_q (Ent.re [3] rfl) rfl (Q_nilCheck rfl) rfl rfl rfl ?_
    refine S_q (Ent.re [3] rfl) rfl (Q_fa0 rfl) rfl rfl rfl ?_
    refine S_s rfl rfl rfl (O_st1 3 rfl rfl rfl rfl rfl ⟨[], free_no (by kernel_rfl), ?_⟩)
    refine JS.norm ?_
    refine S_nil ?_
    refine blockQ_normal ?_
    refine seqQ_normal ?_
    refine J_seq ?_
    refine J.ent (L' := [segC p size su S2, slc tPf true S2 (qs ++ [(⟨n0, [], 0⟩, b30)]), fsC (qs ++ [(⟨n0, [], 0⟩, b30)]), F]) ?_ ?_
    · refine (Ent.mk fun _ _ h => (h.lay_nil tI true : Sat _ _ (slc tI true SV.nil [] :: _))).trans ?_
      refine (Ent.re [2, 0, 3, 6, 4, 5, 7] rfl).trans ?_
      refine (fileAt_mk (f := ⟨n0, [], 0⟩) (q := b30) (S := SV.nil) (dp := dp) (fi := n0) (es := []) (d := ⟨[], 0⟩) rfl rfl rfl rfl).trans ?_
      exact (Ent.last_in fileAt qs (⟨n0, [], 0⟩, b30)).trans (Ent.re [1, 2, 0, 3] rfl)
    have hfn : (⟨n0, [], 0⟩ : Fl).next ≤ 10000000 := by simp only [Fl.next, List.length_nil]; omega
    have hdw := doD_write ⟨n0, [], 0⟩ t (by simp [text]; omega)
    have hdo := fun dp => do_ok E dp (⟨n0, [], 0⟩ : Fl).d ⟨1, frame t, 0⟩ (Nat.two_pow_pos 64) ⟨Nat.le_refl _, by simp [Fl.d, text]⟩
    rw [hdw] at hdo
    dsimp only at hdo
    have hel : (ends ([] : List (List UInt8))).length ≤ 8192 := by simp [ends]
    have hlast := last_ok E p size su S2 (qs ++ [(⟨n0, [], 0⟩, b30)]) (by simp; omega)
    rw [lastP_snoc] at hlast
    refine J_region ?_
    refine L_q (Q_move rfl) rfl rfl rfl ?_
    refine L_o rfl rfl rfl (O_call [0,1] [2,3] (hlast) rfl rfl ?_)
    rintro _ _ ⟨rfl, rfl⟩
    refine JL.norm ?_
    refine L_q (Q_assign rfl) rfl rfl rfl ?_
    refine JL_nil ?_
    refine seqQ_normal ?_
    refine J_seq ?_
    refine J.ent ((Ent.re [2, 0, 1, 3] rfl).trans (Ent.last_out fileAt qs (⟨n0, [], 0⟩, b30))) ?_
    refine J_region ?_
    refine L_q (Q_move rfl) rfl rfl rfl ?_
    refine L_o rfl rfl rfl (O_call [0] [1,2,3,4] (fnext_ok E ⟨n0, [], 0⟩ b30 hfn) rfl rfl ?_)
    rintro _ _ ⟨rfl, rfl⟩
    refine JL.norm ?_
    refine L_q (Q_assign rfl) rfl rfl rfl ?_
    refine JL_nil ?_
    refine seqQ_normal ?_
    refine J_seq ?_
    refine J_file fun S4 dp4 => ?_
    refine J_region ?_
    refine L_q (Q_move rfl) rfl rfl rfl ?_
    refine L_q (Q_nilCheck rfl) rfl rfl rfl ?_
    refine L_q (Q_fa0 rfl) rfl rfl rfl ?_
    refine L_q (Q_ld 0 rfl rfl rfl rfl) rfl rfl rfl ?_
    refine L_q (Q_move rfl) rfl rfl rfl ?_
    refine L_q (Q_build rfl) rfl rfl rfl ?_
    refine L_o rfl rfl rfl (O_call [2] [0,1,3,4,5,6] (hdo dp4) rfl rfl ?_)
    rintro _ _ ⟨rfl, rfl⟩
    refine JL.norm ?_
    refine JL_nil ?_
    refine seqQ_normal ?_
    refine J_seq ?_
    refine J_drawH [1] [0, 1, 2, 3, 4, 5, 6, 7, 8, 10, 13, 14] (.quiet 0 (.quiet 1 (.quiet 2 (.quiet 3 (.quiet 4 (.quiet 5 (.quiet 6 (.quiet 7 (.quiet 8 (.loud 9 (.quiet 10 (.loud 11 (.loud 12 (.quiet 13 (.quiet 14 (.loud 15 .done)))))))))))))))) Try.mixed (by kernel_rfl) (by kernel_rfl) (by repeat (first | exact retQ_noP | refine seqQ_noP ?_ | refine blockQ_noP ?_ | refine loopQ_noP ?_ | refine scopeQ_noP ?_)) ?_
    refine S_q (Ent.re [1] rfl) rfl (Q_move rfl) rfl rfl rfl ?_
    refine S_q (Ent.re [1] rfl) rfl (Q_move rfl) rfl rfl rfl ?_
    refine S_q (Ent.re [1] rfl) rfl (Q_nilCheck rfl) rfl rfl rfl ?_
    refine S_q (Ent.re [1] rfl) rfl (Q_fa0 rfl) rfl rfl rfl ?_
    refine S_q (Ent.re [1] rfl) rfl (Q_ld 0 rfl rfl rfl rfl) rfl rfl rfl ?_
    refine S_q (Ent.re [1] rfl) rfl (Q_move rfl) rfl rfl rfl ?_
    refine S_q (Ent.re [1] rfl) rfl (Q_nilCheck rfl) rfl rfl rfl ?_
    refine S_q (Ent.re [1] rfl) rfl (Q_fa0 rfl) rfl rfl rfl ?_
    refine S_q (Ent.re [1] rfl) rfl (Q_ld 0 rfl rfl rfl rfl) rfl rfl rfl ?_
    refine S_o rfl rfl rfl rfl (O_call [0] [1,2,3,4,5,6] (text_ok E dp4 (putF ⟨n0, [], 0⟩ t).d) rfl rfl ?_)
    (rintro _ _ ⟨rfl, rfl⟩; refine ⟨_, fun _ => ⟨Ent.reN [1] rfl, Ent.refl _⟩, ?_⟩)
    refine JS.norm ?_
    refine S_q (Ent.re [1] rfl) rfl (Q_slen rfl) rfl rfl rfl ?_
    refine S_o rfl rfl rfl rfl (O_litP (τ := tI) (m := 1) (sz := 1) [(text (([] : List (List UInt8)) ++ [t])).length] rfl rfl rfl rfl rfl rfl (by decide) (fun S5 => ⟨_, fun _ => ⟨Ent.reN [2] rfl, Ent.refl _⟩, ?_⟩))
    refine JS.norm ?_
    refine S_o rfl rfl rfl rfl (O_app (τ := tI) 3 rfl (fun w h => h.rd 0 rfl) rfl rfl rfl rfl (by simp only [List.length_singleton]; omega) (by decide) (fun S6 => ⟨_, fun _ => ⟨Ent.reN [2] rfl, Ent.refl _⟩, ?_⟩))
    refine JS.norm ?_
    refine S_q (Ent.re [2] rfl) rfl (Q_nilCheck rfl) rfl rfl rfl ?_
    refine S_q (Ent.re [2] rfl) rfl (Q_fa0 rfl) rfl rfl rfl ?_
    refine S_s rfl rfl rfl (O_st1 2 rfl rfl rfl rfl rfl ⟨[], free_no (by kernel_rfl), ?_⟩)
    refine JS.norm ?_
    refine S_nil ?_
    refine seqQ_normal ?_
    refine J_seq ?_
    refine J_region ?_
    refine L_q (Q_move rfl) rfl rfl rfl ?_
    refine L_q (Q_assign rfl) rfl rfl rfl ?_
    refine L_q (Q_assign rfl) rfl rfl rfl ?_
    refine JL_nil ?_
    refine seqQ_normal ?_
    refine J_ret ?_
    rw [← ends_snoc]
    refine retQ_ret _ _ (.cons (RV_tmp rfl) (.cons (RV_tmp rfl) .nil)) ⟨S2, qs ++ [(putF ⟨n0, [], 0⟩ t, b30)], rfl, by simp, rfl⟩ ?_
    rw [slc_onP qs ⟨n0, [], 0⟩ (putF ⟨n0, [], 0⟩ t) b30]
    exact ((Ent.re [2, 3, 1, 4, 5, 6, 7] rfl).trans (fileAt_mk (f := putF ⟨n0, [], 0⟩ t) rfl rfl rfl rfl)).trans ((Ent.last_in fileAt qs (putF ⟨n0, [], 0⟩ t, b30)).trans (Ent.re [1, 2, 0, 3] rfl))
end Go.Proofs
