/- The document's log in files: an append. -/
import Derived.Test.YtogjhcelmbhooaaRef35a
import Derived.Test.YtogjhcelmbhooaaSeg9
set_option autoImplicit false
namespace Go.Proofs
open Go.SL
abbrev recAt (r : Fr) : HProp := slc tS true r.2 r.1.l
abbrev rowsC (rs : List Fr) : HProp := stars (rs.map recAt)
theorem rows_onR (rs : List Fr) : rowsC (onR rs syncF) = rowsC rs := by
  rcases last_cases rs with rfl | ⟨a, r, rfl⟩
  · rfl
  · rw [onR_snoc]; simp [rowsC, recAt, syncF]
theorem onR_fst (rs : List Fr) (u : Fl → Fl) : (onR rs u).map (·.1) = onLast (rs.map (·.1)) u := by
  rcases last_cases rs with rfl | ⟨a, r, rfl⟩
  · rfl
  · simp only [onR_snoc, List.map_append, List.map_cons, List.map_nil, onLast_snoc]
theorem onR_len (rs : List Fr) (u : Fl → Fl) : (onR rs u).length = rs.length := by
  rcases last_cases rs with rfl | ⟨a, r, rfl⟩
  · rfl
  · rw [onR_snoc]; simp
theorem onR_n (rs : List Fr) (h : ∀ r ∈ rs, r.2.n = r.1.l.length) : ∀ r ∈ onR rs syncF, r.2.n = r.1.l.length := by
  rcases last_cases rs with rfl | ⟨a, r, rfl⟩
  · simp [onR]
  · rw [onR_snoc]
    intro q hq
    rw [List.mem_append, List.mem_singleton] at hq
    rcases hq with hq | rfl
    · exact h q (by simp [hq])
    · exact h r (by simp)
attribute [local irreducible] J JL QOp JOp seqQ blockQ loopQ retQ slc cel hex star pur stars Does RV Ent pAt scopeQ
theorem rappend_ok (E : World) (size sure : Nat) (X : SV) (rs : List Fr) (t : List UInt8) (h64 : 64 ≤ size) (h8 : size ≤ 8192) (hl : rs.length ≤ 16) (hn : nextOf (rs.map (·.1)) ≤ 1000000) (hr : ∀ r ∈ rs, r.2.n = r.1.l.length ∧ r.1.next ≤ 1000000) (hok : ∀ r ∈ rs, (text r.1.l).length ≤ 8192 ∧ r.1.s ≤ (text r.1.l).length) :
    Does Try.prog E 12 [refV size sure X, str t] [slc tF true X rs, rowsC rs] fun v L => ∃ (X' : SV) (rs' : List Fr), v = .tuple #[refV size (appL ⟨size, sure, rs.map (·.1)⟩ t).1.sure X', .int .i64 ((appL ⟨size, sure, rs.map (·.1)⟩ t).2.1 : Int), .int .i64 (appL ⟨size, sure, rs.map (·.1)⟩ t).2.2] ∧
      rs'.map (·.1) = (appL ⟨size, sure, rs.map (·.1)⟩ t).1.fs ∧ (∀ r ∈ rs', r.2.n = r.1.l.length) ∧ L = [slc tF true X' rs', rowsC rs'] := by
  obtain ⟨g, hg⟩ : ∃ g : Lg, g = ⟨size, sure, rs.map (·.1)⟩ := ⟨_, rfl⟩
  rw [← hg]
  have hgs : g.size = size := by rw [hg]
  have hgu : g.sure = sure := by rw [hg]
  have hgf : g.fs = rs.map (·.1) := by rw [hg]
  have hfr := rframe_ok E t
  have hr1 : ∀ r ∈ rs, r.2.n = r.1.l.length := fun r h => (hr r h).1
  refine Does.of Try.func12 rfl Try.ntmps12 rfl rfl fun F => ?_
  refine J.norm ?_
  refine J_seq ?_
  refine J_region ?_
  refine L_o rfl rfl rfl (O_box rfl fun b2 => ?_)
  refine L_o rfl rfl rfl (O_alloc fun b4 => ?_)
  refine L_q (Q_assign rfl) rfl rfl rfl ?_
  refine L_q (Q_assign rfl) rfl rfl rfl ?_
  refine JL_nil ?_
  refine seqQ_normal ?_
  refine J_seq ?_
  by_cases h1 : 4096 < t.length
  · rw [show frameV t = .tuple #[str [], .int .i64 2] by unfold frameV; rw [if_pos h1]] at hfr
    have e : appL g t = (g, 0, 2) := by unfold appL; rw [if_pos h1]
    rw [e]
    refine J_region ?_
    refine L_q (Q_move rfl) rfl rfl rfl ?_
    refine L_o rfl rfl rfl (O_call [] [0,1,2,3,4] hfr rfl rfl ?_)
    rintro _ _ ⟨rfl, rfl⟩
    refine JL.norm ?_
    refine L_q (Q_move rfl) rfl rfl rfl ?_
    refine L_q (Q_extract (v := str []) rfl rfl) rfl rfl rfl ?_
    refine L_q (Q_extract (v := .int .i64 2) rfl rfl) rfl rfl rfl ?_
    refine L_q (Q_assign rfl) rfl rfl rfl ?_
    refine L_q (Q_assign rfl) rfl rfl rfl ?_
    refine JL_nil ?_
    refine seqQ_normal ?_
    refine J_seq ?_
    refine J_seq ?_
    refine J_region ?_
    refine L_q (Q_move rfl) rfl rfl rfl ?_
    refine L_q ((Q_neq rfl rfl).as (v' := .bool true) rfl) rfl rfl rfl ?_
    refine L_q (Q_move rfl) rfl rfl rfl ?_
    refine L_n rfl rfl rfl ?_
    refine L_n rfl rfl rfl ?_
    refine L_n rfl rfl rfl ?_
    refine L_n rfl rfl rfl ?_
    refine L_n rfl rfl rfl ?_
    refine L_q (Q_pickT rfl rfl) rfl rfl rfl ?_
    refine JL_nil ?_
    refine seqQ_normal ?_
    refine J_condT rfl ?_
    refine J_seq ?_
    refine J_region ?_
    refine L_q (Q_ldA 1 rfl rfl rfl) rfl rfl rfl ?_
    refine L_s rfl rfl (O_stW 0 rfl rfl rfl rfl ?_)
    refine JL.norm ?_
    refine L_q (Q_assign rfl) rfl rfl rfl ?_
    refine L_q (Q_assign rfl) rfl rfl rfl ?_
    refine JL_nil ?_
    refine seqQ_normal ?_
    refine J_ret ?_
    refine seqQ_ret ?_
    exact retQ_ret _ _ (.cons (RV_cell 0 rfl rfl rfl rfl) (.cons (RV_tmp rfl) (.cons (RV_tmp rfl) .nil))) ⟨X, rs, by rw [hgu]; rfl, hgf.symm, hr1, rfl⟩ (Ent.re [2, 3, 4] rfl)
  rw [show frameV t = .tuple #[str (frame t), .int .i64 0] by unfold frameV; rw [if_neg h1]] at hfr
  have hfl := frame_len t
  refine J_region ?_
  refine L_q (Q_move rfl) rfl rfl rfl ?_
  refine L_o rfl rfl rfl (O_call [] [0,1,2,3,4] hfr rfl rfl ?_)
  rintro _ _ ⟨rfl, rfl⟩
  refine JL.norm ?_
  refine L_q (Q_move rfl) rfl rfl rfl ?_
  refine L_q (Q_extract (v := str (frame t)) rfl rfl) rfl rfl rfl ?_
  refine L_q (Q_extract (v := .int .i64 0) rfl rfl) rfl rfl rfl ?_
  refine L_q (Q_assign rfl) rfl rfl rfl ?_
  refine L_q (Q_assign rfl) rfl rfl rfl ?_
  refine JL_nil ?_
  refine seqQ_normal ?_
  refine J_seq ?_
  refine J_seq ?_
  by_cases h2 : size < 8 + t.length
  · have e : appL g t = (g, 0, 2) := by unfold appL; rw [if_neg h1, if_pos (by omega)]
    rw [e]
    refine J_region ?_
    refine L_q (Q_move rfl) rfl rfl rfl ?_
    refine L_q ((Q_neq rfl rfl).as (v' := .bool false) rfl) rfl rfl rfl ?_
    refine L_q (Q_move rfl) rfl rfl rfl ?_
    refine L_q (Q_move rfl) rfl rfl rfl ?_
    refine L_q (Q_slen rfl) rfl rfl rfl ?_
    refine L_q (Q_fa0 rfl) rfl rfl rfl ?_
    refine L_q (Q_ld 1 rfl rfl rfl rfl) rfl rfl rfl ?_
    refine L_q ((Q_gtr rfl rfl).as (v' := .bool true) (congrArg Value.bool (decide_eq_true (by rw [hfl]; omega)))) rfl rfl rfl ?_
    refine L_q (Q_pickF rfl rfl) rfl rfl rfl ?_
    refine JL_nil ?_
    refine seqQ_normal ?_
    refine J_condT rfl ?_
    refine J_seq ?_
    refine J_region ?_
    refine L_q (Q_ldA 1 rfl rfl rfl) rfl rfl rfl ?_
    refine L_s rfl rfl (O_stW 0 rfl rfl rfl rfl ?_)
    refine JL.norm ?_
    refine L_q (Q_assign rfl) rfl rfl rfl ?_
    refine L_q (Q_assign rfl) rfl rfl rfl ?_
    refine JL_nil ?_
    refine seqQ_normal ?_
    refine J_ret ?_
    refine seqQ_ret ?_
    exact retQ_ret _ _ (.cons (RV_cell 0 rfl rfl rfl rfl) (.cons (RV_tmp rfl) (.cons (RV_tmp rfl) .nil))) ⟨X, rs, by rw [hgu]; rfl, hgf.symm, hr1, rfl⟩ (Ent.re [2, 3, 4] rfl)
  refine J_region ?_
  refine L_q (Q_move rfl) rfl rfl rfl ?_
  refine L_q ((Q_neq rfl rfl).as (v' := .bool false) rfl) rfl rfl rfl ?_
  refine L_q (Q_move rfl) rfl rfl rfl ?_
  refine L_q (Q_move rfl) rfl rfl rfl ?_
  refine L_q (Q_slen rfl) rfl rfl rfl ?_
  refine L_q (Q_fa0 rfl) rfl rfl rfl ?_
  refine L_q (Q_ld 1 rfl rfl rfl rfl) rfl rfl rfl ?_
  refine L_q ((Q_gtr rfl rfl).as (v' := .bool false) (congrArg Value.bool (decide_eq_false (by rw [hfl]; omega)))) rfl rfl rfl ?_
  refine L_q (Q_pickF rfl rfl) rfl rfl rfl ?_
  refine JL_nil ?_
  refine seqQ_normal ?_
  refine J_condF rfl ?_
  refine J_skip ?_
  refine seqQ_normal ?_
  refine J_seq ?_
  have hnx := rnext35_ok E size sure X rs (by omega) (fun r h => ⟨(hr r h).1, Nat.le_trans (hr r h).2 (by decide)⟩)
  obtain ⟨n0, hn0⟩ : ∃ n0, n0 = nextOf (rs.map (·.1)) := ⟨_, rfl⟩
  rw [← hn0] at hnx
  refine J_region ?_
  refine L_q (Q_ldA 1 rfl rfl rfl) rfl rfl rfl ?_
  refine L_o rfl rfl rfl (O_call [2] [0,1,3,4] hnx rfl rfl ?_)
  rintro _ _ ⟨rfl, rfl⟩
  refine JL.norm ?_
  refine L_q (Q_assign rfl) rfl rfl rfl ?_
  refine JL_nil ?_
  refine seqQ_normal ?_
  refine J_seq ?_
  refine J_seq ?_
  refine J.ent (Ent.re [1, 2, 0, 3, 4] rfl) ?_
  cases hb : roomB g (8 + t.length) with
  | true =>
    rcases last_cases rs with rfl | ⟨a, ⟨f, q⟩, rfl⟩
    · rw [hg] at hb; cases hb
    have hfit : (text f.l).length + (8 + t.length) ≤ size := by
      rw [hg] at hb; simpa [roomB] using hb
    have e : appL g t = (⟨size, sure, (a.map (·.1)) ++ [putF f t]⟩, f.next, 0) := by
      unfold appL
      rw [if_neg h1, if_neg (by omega), if_pos hb, hgf, hgs, hgu]
      simp only [List.map_append, List.map_cons, List.map_nil, onLast_snoc, nextOf_snoc]
    rw [e]
    rw [List.map_append, List.map_cons, List.map_nil, nextOf_snoc] at hn hn0
    subst hn0
    have hlenA : (a ++ [(f, q)]).length = a.length + 1 := by simp
    have hltA : a.length < (a ++ [(f, q)]).length := by omega
    have hglA := snoc_get a (f, q) hltA
    rw [hlenA] at hl
    have hdw := doD_write f t (by omega)
    have hk2 := hok (f, q) (by simp)
    have hdo := rdo_ok E f.d ⟨1, frame t, 0⟩ (Nat.two_pow_pos 64) ⟨hk2.2, Nat.le_trans hk2.1 (by decide)⟩ (by simp only; omega)
    rw [hdw] at hdo
    dsimp only at hdo
    have htl := text_len f.l
    refine J_drawH [1,2] [0, 1, 2, 3, 4, 5, 6, 7, 8, 9, 10, 11, 12, 13, 14, 15, 16, 17, 18, 19, 20, 21, 22] (.quiet 0 (.quiet 1 (.quiet 2 (.quiet 3 (.quiet 4 (.quiet 5 (.quiet 6 (.quiet 7 (.quiet 8 (.quiet 9 (.quiet 10 (.quiet 11 (.quiet 12 (.quiet 13 (.quiet 14 (.quiet 15 (.quiet 16 (.quiet 17 (.quiet 18 (.quiet 19 (.quiet 20 (.quiet 21 (.quiet 22 .done))))))))))))))))))))))) Try.mixed (by kernel_rfl) (by kernel_rfl) (by repeat (first | exact retQ_noP | refine seqQ_noP ?_ | refine blockQ_noP ?_ | refine loopQ_noP ?_ | refine scopeQ_noP ?_)) ?_
    refine S_q (Ent.re [1,2] rfl) rfl (Q_fa0 rfl) rfl rfl rfl ?_
    refine S_q (Ent.re [1,2] rfl) rfl (Q_ld 0 rfl rfl rfl rfl) rfl rfl rfl ?_
    refine S_q (Ent.re [1,2] rfl) rfl (Q_lenAt 1 rfl rfl) rfl rfl rfl ?_
    refine S_q (Ent.re [1,2] rfl) rfl ((Q_eql rfl rfl).as (v' := .bool false) (congrArg Value.bool (decide_eq_false (by omega)))) rfl rfl rfl ?_
    refine S_q (Ent.re [1,2] rfl) rfl (Q_move rfl) rfl rfl rfl ?_
    refine S_q (Ent.re [1,2] rfl) rfl (Q_fa0 rfl) rfl rfl rfl ?_
    refine S_q (Ent.re [1,2] rfl) rfl (Q_ld 0 rfl rfl rfl rfl) rfl rfl rfl ?_
    refine S_q (Ent.re [1,2] rfl) rfl (Q_fa0 rfl) rfl rfl rfl ?_
    refine S_q (Ent.re [1,2] rfl) rfl (Q_ld 0 rfl rfl rfl rfl) rfl rfl rfl ?_
    refine S_q (Ent.re [1,2] rfl) rfl (Q_lenAt 1 rfl rfl) rfl rfl rfl ?_
    refine S_q (Ent.re [1,2] rfl) rfl (Q_sub rfl rfl (IntWalk.i64_in _ (by omega))) rfl rfl rfl ?_
    refine S_q (Ent.re [1,2] rfl) rfl (Q_ixAt 1 a.length rfl rfl rfl (by omega) hltA rfl) rfl rfl rfl ?_
    refine S_q (Ent.re [1,2] rfl) rfl (Q_pfa rfl) rfl rfl rfl ?_
    refine S_q (Ent.re [1,2] rfl) rfl (Q_pfa rfl) rfl rfl rfl ?_
    refine S_q (Ent.re [1,2] rfl) rfl (Q_ldEAt 1 a.length 1 (v := str (text f.l)) rfl rfl rfl rfl hltA (by decide) (by rw [hglA]; rfl)) rfl rfl rfl ?_
    refine S_q (Ent.re [1,2] rfl) rfl (Q_slen rfl) rfl rfl rfl ?_
    refine S_q (Ent.re [1,2] rfl) rfl (Q_fa0 rfl) rfl rfl rfl ?_
    refine S_q (Ent.re [1,2] rfl) rfl (Q_ld 0 rfl rfl rfl rfl) rfl rfl rfl ?_
    refine S_q (Ent.re [1,2] rfl) rfl (Q_move rfl) rfl rfl rfl ?_
    refine S_q (Ent.re [1,2] rfl) rfl ((Q_slen rfl).as (v' := .int .i64 ((8 + t.length : Nat) : Int)) (by rw [hfl])) rfl rfl rfl ?_
    refine S_q (Ent.re [1,2] rfl) rfl (Q_sub rfl rfl (by first | exact IntWalk.i64_in _ (by omega) | exact IntWalk.u8_in _ (by omega) | exact IntWalk.u32_in _ (by omega) | exact IntWalk.u64_in _ (by omega) | rfl)) rfl rfl rfl ?_
    refine S_q (Ent.re [1,2] rfl) rfl ((Q_gtr rfl rfl).as (v' := .bool false) (congrArg Value.bool (decide_eq_false (by omega)))) rfl rfl rfl ?_
    refine S_q (Ent.re [1,2] rfl) rfl (Q_pickF rfl rfl) rfl rfl rfl ?_
    refine S_nil ?_
    refine seqQ_normal ?_
    refine J_condF rfl ?_
    refine J_skip ?_
    refine seqQ_normal ?_
    refine J_seq ?_
    refine J.ent ((Ent.re [3, 0, 1, 2, 4] rfl).trans (Ent.last_out recAt a (f, q))) ?_
    refine J_region ?_
    refine L_q (Q_fa0 rfl) rfl rfl rfl ?_
    refine L_q (Q_ld 3 rfl rfl rfl rfl) rfl rfl rfl ?_
    refine L_q (Q_fa0 rfl) rfl rfl rfl ?_
    refine L_q (Q_ld 3 rfl rfl rfl rfl) rfl rfl rfl ?_
    refine L_q (Q_lenAt 4 rfl rfl) rfl rfl rfl ?_
    refine L_q (Q_sub rfl rfl (IntWalk.i64_in _ (by omega))) rfl rfl rfl ?_
    refine L_q (Q_ixAt 4 a.length rfl rfl rfl (by omega) hltA rfl) rfl rfl rfl ?_
    refine L_q (Q_ldEAAt 4 a.length 0 (vs := [.int .i64 (f.first : Int), str (text f.l), .int .i64 (f.s : Int), q.v]) rfl rfl rfl rfl hltA (by decide) (by rw [hglA]; rfl)) rfl rfl rfl ?_
    refine L_o rfl rfl rfl (O_alloc fun b10 => ?_)
    refine L_s rfl rfl (O_stW 0 rfl rfl rfl rfl ?_)
    refine JL.norm ?_
    refine JL_nil ?_
    refine seqQ_normal ?_
    refine J_seq ?_
    refine J_region ?_
    refine L_q (Q_fa0 rfl) rfl rfl rfl ?_
    refine L_q (Q_ldA 0 rfl rfl rfl) rfl rfl rfl ?_
    refine L_q (Q_move rfl) rfl rfl rfl ?_
    refine L_q (Q_build rfl) rfl rfl rfl ?_
    refine L_o rfl rfl rfl (O_call [] [0,1,2,3,4,5,6] hdo rfl rfl ?_)
    rintro _ _ ⟨rfl, rfl⟩
    refine JL.norm ?_
    refine L_q (Q_move rfl) rfl rfl rfl ?_
    refine L_q (Q_extract (v := dkV (putF f t).d) rfl rfl) rfl rfl rfl ?_
    refine L_q (Q_extract (v := .int .i64 0) rfl rfl) rfl rfl rfl ?_
    refine L_o rfl rfl rfl (O_alloc fun b11 => ?_)
    refine L_s rfl rfl (O_stW 0 rfl rfl rfl rfl ?_)
    refine JL.norm ?_
    refine L_q (Q_assign rfl) rfl rfl rfl ?_
    refine JL_nil ?_
    refine seqQ_normal ?_
    refine J_seq ?_
    refine J_region ?_
    refine L_q (Q_ldA 0 rfl rfl rfl) rfl rfl rfl ?_
    refine L_q (Q_fa0 rfl) rfl rfl rfl ?_
    refine L_s rfl rfl (O_st (sz := 2) (cs' := [.int .i64 (f.first : Int), str (putF f t).d.b, .int .i64 ((putF f t).d.s : Int), q.v]) 1 rfl rfl rfl rfl rfl (by simp [Value.oneCell', Value.cells]) (by simp) rfl ?_)
    refine JL.norm ?_
    refine JL_nil ?_
    refine seqQ_normal ?_
    refine J_seq ?_
    refine J.ent (Ent.mk fun _ _ h => (h.lay_nil tS true : Sat _ _ (slc tS true SV.nil [] :: _))) ?_
    refine J_region ?_
    refine L_q (Q_fa0 rfl) rfl rfl rfl ?_
    refine L_q (Q_ld 2 rfl rfl rfl rfl) rfl rfl rfl ?_
    refine L_o rfl rfl rfl (O_app (τ := tS) 0 rfl (fun w h => h.rd 3 rfl) rfl rfl rfl rfl (by simp only [List.length_nil]; omega) (by decide) (fun L1 => ?_))
    refine JL.norm ?_
    refine L_q (Q_move rfl) rfl rfl rfl ?_
    refine L_o rfl rfl rfl (O_litP (τ := tS) (m := 1) (sz := 1) [t] rfl rfl rfl rfl rfl rfl (by decide) (fun L2 => ?_))
    refine JL.norm ?_
    refine L_o rfl rfl rfl (O_app (τ := tS) 1 rfl (fun w h => h.rd 0 rfl) rfl rfl rfl rfl (by simp only [List.nil_append, List.length_singleton, List.length_nil]; omega) (by decide) (fun L3 => ?_))
    refine JL.norm ?_
    refine L_q (Q_fa0 rfl) rfl rfl rfl ?_
    refine L_s rfl rfl (O_st1 3 rfl rfl rfl rfl rfl ?_)
    refine JL.norm ?_
    refine JL_nil ?_
    refine seqQ_normal ?_
    refine J_seq ?_
    rw [List.nil_append]
    refine J.have (p := L3.n = (f.l ++ [t]).length) (fun w hs => (hs.rd 1 rfl).1) fun hn3 => ?_
    refine J_region ?_
    refine L_q (Q_ldA 7 rfl rfl rfl) rfl rfl rfl ?_
    refine L_q (Q_ldA 3 rfl rfl rfl) rfl rfl rfl ?_
    refine L_o rfl rfl rfl (O_call [8] [0,1,2,3,4,5,6,7,9] (rlast_ok E size sure X a (f, q) (putF f t, L3) (by omega)) rfl rfl ?_)
    rintro _ _ ⟨X', rfl, rfl⟩
    refine JL.norm ?_
    refine L_q (Q_move rfl) rfl rfl rfl ?_
    refine L_s rfl rfl (O_stW 7 rfl rfl rfl rfl ?_)
    refine JL.norm ?_
    refine L_q (Q_assign rfl) rfl rfl rfl ?_
    refine L_q (Q_assign rfl) rfl rfl rfl ?_
    refine JL_nil ?_
    refine seqQ_normal ?_
    refine J_ret ?_
    refine retQ_ret _ [slc tF true X' (a ++ [(putF f t, L3)]), rowsC (a ++ [(putF f t, L3)])] (.cons (RV_cell 7 rfl rfl rfl rfl) (.cons (RV_tmp rfl) (.cons (RV_tmp rfl) .nil))) ⟨X', a ++ [(putF f t, L3)], rfl, by simp, ?_, rfl⟩ ?_
    · intro r' hr'
      rw [List.mem_append, List.mem_singleton] at hr'
      rcases hr' with hr' | rfl
      · exact hr1 r' (by simp [hr'])
      · exact hn3
    · exact (Ent.re [2, 6, 0, 9] rfl).trans ((Ent.last_in recAt a (putF f t, L3)).trans (Ent.re [1, 0, 2] rfl))
  | false =>
    have hbr : rs = [] ∨ ∃ a r, rs = a ++ [r] ∧ size < (text r.1.l).length + (8 + t.length) := by
      rcases last_cases rs with h | ⟨a, r, h⟩
      · exact .inl h
      · refine .inr ⟨a, r, h, ?_⟩
        rw [hg, h] at hb
        simp [roomB] at hb
        omega
    obtain ⟨qs, hqs⟩ : ∃ qs, qs = onR rs syncF := ⟨_, rfl⟩
    obtain ⟨su, hsu⟩ : ∃ su, su = if rs = [] then sure else nextOf (rs.map (·.1)) := ⟨_, rfl⟩
    have hql : qs.length = rs.length := by rw [hqs, onR_len]
    have hqn : ∀ r ∈ qs, r.2.n = r.1.l.length := by rw [hqs]; exact onR_n rs hr1
    have hrows : rowsC rs = rowsC qs := by rw [hqs]; exact (rows_onR rs).symm
    have hsy := rsync35_ok E size sure X rs (by omega) (fun r h => ⟨(hr r h).1, Nat.le_trans (hr r h).2 (by decide)⟩) hok
    rw [← hsu, ← hqs] at hsy
    have hfull : 16 ≤ rs.length → appL g t = (g, 0, 7) := fun h3 => by unfold appL; rw [if_neg h1, if_neg (by omega), if_neg (by rw [hb]; simp), if_pos (by rw [hgf, List.length_map]; exact h3)]
    have e : ¬ 16 ≤ rs.length → appL g t = (⟨size, su, qs.map (·.1) ++ [putF ⟨n0, [], 0⟩ t]⟩, n0, 0) := fun h3 => by
      unfold appL
      rw [if_neg h1, if_neg (by omega), if_neg (by rw [hb]; simp), if_neg (by rw [hgf, List.length_map]; exact h3)]
      have e1 : (syncL g).fs = qs.map (·.1) := by rw [hqs, onR_fst, ← hgf]; rfl
      have e2 : (syncL g).sure = su := by
        rw [hsu, hg]; simp only [syncL, List.map_eq_nil_iff]
      rw [e1, e2, hgs, hgf, ← hn0]
      simp [putF]
    rcases hbr with h0 | ⟨a, r, h0, hbig⟩
    · subst h0
      refine J_drawH [1,2] [0, 1, 2, 3, 4, 5, 6, 7, 8, 9, 10, 11, 12, 13, 14, 15, 16, 17, 18, 19, 20, 21, 22] (.quiet 0 (.quiet 1 (.quiet 2 (.quiet 3 (.quiet 4 (.quiet 5 (.quiet 6 (.quiet 7 (.quiet 8 (.quiet 9 (.quiet 10 (.quiet 11 (.quiet 12 (.quiet 13 (.quiet 14 (.quiet 15 (.quiet 16 (.quiet 17 (.quiet 18 (.quiet 19 (.quiet 20 (.quiet 21 (.quiet 22 .done))))))))))))))))))))))) Try.mixed (by kernel_rfl) (by kernel_rfl) (by repeat (first | exact retQ_noP | refine seqQ_noP ?_ | refine blockQ_noP ?_ | refine loopQ_noP ?_ | refine scopeQ_noP ?_)) ?_
      refine S_q (Ent.re [1,2] rfl) rfl (Q_fa0 rfl) rfl rfl rfl ?_
      refine S_q (Ent.re [1,2] rfl) rfl (Q_ld 0 rfl rfl rfl rfl) rfl rfl rfl ?_
      refine S_q (Ent.re [1,2] rfl) rfl (Q_lenAt 1 rfl rfl) rfl rfl rfl ?_
      refine S_q (Ent.re [1,2] rfl) rfl ((Q_eql rfl rfl).as (v' := .bool true) rfl) rfl rfl rfl ?_
      refine S_q (Ent.re [1,2] rfl) rfl (Q_move rfl) rfl rfl rfl ?_
      refine S_n (Ent.re [1,2] rfl) rfl rfl rfl rfl ?_
      refine S_n (Ent.re [1,2] rfl) rfl rfl rfl rfl ?_
      refine S_n (Ent.re [1,2] rfl) rfl rfl rfl rfl ?_
      refine S_n (Ent.re [1,2] rfl) rfl rfl rfl rfl ?_
      refine S_n (Ent.re [1,2] rfl) rfl rfl rfl rfl ?_
      refine S_n (Ent.re [1,2] rfl) rfl rfl rfl rfl ?_
      refine S_n (Ent.re [1,2] rfl) rfl rfl rfl rfl ?_
      refine S_n (Ent.re [1,2] rfl) rfl rfl rfl rfl ?_
      refine S_n (Ent.re [1,2] rfl) rfl rfl rfl rfl ?_
      refine S_n (Ent.re [1,2] rfl) rfl rfl rfl rfl ?_
      refine S_n (Ent.re [1,2] rfl) rfl rfl rfl rfl ?_
      refine S_n (Ent.re [1,2] rfl) rfl rfl rfl rfl ?_
      refine S_n (Ent.re [1,2] rfl) rfl rfl rfl rfl ?_
      refine S_n (Ent.re [1,2] rfl) rfl rfl rfl rfl ?_
      refine S_n (Ent.re [1,2] rfl) rfl rfl rfl rfl ?_
      refine S_n (Ent.re [1,2] rfl) rfl rfl rfl rfl ?_
      refine S_n (Ent.re [1,2] rfl) rfl rfl rfl rfl ?_
      refine S_q (Ent.re [1,2] rfl) rfl (Q_pickT rfl rfl) rfl rfl rfl ?_
      refine S_nil ?_
      refine seqQ_normal ?_
      refine J_condT rfl ?_
      refine J_seq ?_
      refine J_seq ?_
      by_cases h3 : 16 ≤ ([] : List Fr).length
      · rw [hfull h3]
        refine J_region ?_
        refine L_q (Q_fa0 rfl) rfl rfl rfl ?_
        refine L_q (Q_ld 1 rfl rfl rfl rfl) rfl rfl rfl ?_
        refine L_q (Q_lenAt 2 rfl rfl) rfl rfl rfl ?_
        refine L_q ((Q_geq rfl rfl).as (v' := .bool true) (congrArg Value.bool (decide_eq_true (by omega)))) rfl rfl rfl ?_
        refine JL_nil ?_
        refine seqQ_normal ?_
        refine J_condT rfl ?_
        refine J_seq ?_
        refine J_region ?_
        refine L_q (Q_ldA 1 rfl rfl rfl) rfl rfl rfl ?_
        refine L_s rfl rfl (O_stW 0 rfl rfl rfl rfl ?_)
        refine JL.norm ?_
        refine L_q (Q_assign rfl) rfl rfl rfl ?_
        refine L_q (Q_assign rfl) rfl rfl rfl ?_
        refine JL_nil ?_
        refine seqQ_normal ?_
        refine J_ret ?_
        refine seqQ_ret ?_
        refine seqQ_ret ?_
        exact retQ_ret _ _ (.cons (RV_cell 0 rfl rfl rfl rfl) (.cons (RV_tmp rfl) (.cons (RV_tmp rfl) .nil))) ⟨X, [], by rw [hgu]; rfl, hgf.symm, hr1, rfl⟩ (Ent.re [2, 3, 4] rfl)
      rw [e h3]
      refine J_region ?_
      refine L_q (Q_fa0 rfl) rfl rfl rfl ?_
      refine L_q (Q_ld 1 rfl rfl rfl rfl) rfl rfl rfl ?_
      refine L_q (Q_lenAt 2 rfl rfl) rfl rfl rfl ?_
      refine L_q ((Q_geq rfl rfl).as (v' := .bool false) (congrArg Value.bool (decide_eq_false (by omega)))) rfl rfl rfl ?_
      refine JL_nil ?_
      refine seqQ_normal ?_
      refine J_condF rfl ?_
      refine J_skip ?_
      refine seqQ_normal ?_
      refine J_seq ?_
      refine J_region ?_
      refine L_q (Q_ldA 1 rfl rfl rfl) rfl rfl rfl ?_
      refine L_o rfl rfl rfl (O_call [2] [0,1,3,4] hsy rfl rfl ?_)
      rintro _ _ ⟨X1, rfl, rfl⟩
      refine JL.norm ?_
      refine L_s rfl rfl (O_stW 2 rfl rfl rfl rfl ?_)
      refine JL.norm ?_
      refine JL_nil ?_
      refine seqQ_normal ?_
      rw [hrows]
      refine J.ent (Ent.mk fun _ _ h => (h.lay_nil tF true : Sat _ _ (slc tF true SV.nil [] :: _))) ?_
      refine J_region ?_
      refine L_q (Q_fa0 rfl) rfl rfl rfl ?_
      refine L_q (Q_ld 3 rfl rfl rfl rfl) rfl rfl rfl ?_
      refine L_o rfl rfl rfl (O_app (τ := tF) 0 rfl (fun w h => h.rd 1 rfl) rfl rfl rfl rfl (by simp only [List.length_nil]; omega) (by decide) (fun X2 => ?_))
      refine JL.norm ?_
      refine L_q (Q_move rfl) rfl rfl rfl ?_
      refine L_q (Q_build rfl) rfl rfl rfl ?_
      refine L_o rfl rfl rfl (O_litP (τ := tF) (m := 1) (sz := 4) [(⟨n0, [], 0⟩, SV.nil)] rfl rfl rfl rfl rfl rfl (by decide) (fun X3 => ?_))
      refine JL.norm ?_
      refine L_o rfl rfl rfl (O_app (τ := tF) 1 rfl (fun w h => h.rd 0 rfl) rfl rfl rfl rfl (by simp only [List.nil_append, List.length_singleton, List.length_nil]; omega) (by decide) (fun X4 => ?_))
      refine JL.norm ?_
      refine L_q (Q_fa0 rfl) rfl rfl rfl ?_
      refine L_s rfl rfl (O_st1 4 rfl rfl rfl rfl rfl ?_)
      refine JL.norm ?_
      refine JL_nil ?_
      refine seqQ_normal ?_
      refine J_seq ?_
      rw [List.nil_append]
      refine J.ent (L' := [cel b4 [.int .i64 0, .int .i64 0, .slice none 0 0] 29, cel b2 [.int .i64 (size : Int), .int .i64 (su : Int), X4.v] 29, slc tF true X4 (qs ++ [(⟨n0, [], 0⟩, SV.nil)]), rowsC (qs ++ [(⟨n0, [], 0⟩, SV.nil)]), F]) ?_ ?_
      · refine (Ent.mk fun _ _ h => (h.lay_nil tS true : Sat _ _ (slc tS true SV.nil [] :: _))).trans ?_
        refine (Ent.re [0, 6, 4, 5, 2, 7] rfl).trans ?_
        exact (Ent.last_in recAt qs (⟨n0, [], 0⟩, SV.nil)).trans (Ent.re [1, 2, 3, 0, 4] rfl)
      have hlenA : (qs ++ [((⟨n0, [], 0⟩ : Fl), SV.nil)]).length = qs.length + 1 := by simp
      have hltA : qs.length < (qs ++ [((⟨n0, [], 0⟩ : Fl), SV.nil)]).length := by omega
      have hglA := snoc_get qs ((⟨n0, [], 0⟩ : Fl), SV.nil) hltA
      have hdw := doD_write ⟨n0, [], 0⟩ t (by simp [text]; omega)
      have hdo := rdo_ok E (⟨n0, [], 0⟩ : Fl).d ⟨1, frame t, 0⟩ (Nat.two_pow_pos 64) ⟨Nat.le_refl _, by simp [Fl.d, text]⟩ (by simp only; omega)
      rw [hdw] at hdo
      dsimp only at hdo
      refine J.ent ((Ent.re [3, 0, 1, 2, 4] rfl).trans (Ent.last_out recAt qs (⟨n0, [], 0⟩, SV.nil))) ?_
      refine J_region ?_
      refine L_q (Q_fa0 rfl) rfl rfl rfl ?_
      refine L_q (Q_ld 3 rfl rfl rfl rfl) rfl rfl rfl ?_
      refine L_q (Q_fa0 rfl) rfl rfl rfl ?_
      refine L_q (Q_ld 3 rfl rfl rfl rfl) rfl rfl rfl ?_
      refine L_q (Q_lenAt 4 rfl rfl) rfl rfl rfl ?_
      refine L_q (Q_sub rfl rfl (IntWalk.i64_in _ (by omega))) rfl rfl rfl ?_
      refine L_q (Q_ixAt 4 qs.length rfl rfl rfl (by omega) hltA rfl) rfl rfl rfl ?_
      refine L_q (Q_ldEAAt 4 qs.length 0 (vs := [.int .i64 (n0 : Int), str (text ([] : List (List UInt8))), .int .i64 (0 : Int), SV.nil.v]) rfl rfl rfl rfl hltA (by decide) (by rw [hglA]; rfl)) rfl rfl rfl ?_
      refine L_o rfl rfl rfl (O_alloc fun b10 => ?_)
      refine L_s rfl rfl (O_stW 0 rfl rfl rfl rfl ?_)
      refine JL.norm ?_
      refine JL_nil ?_
      refine seqQ_normal ?_
      refine J_seq ?_
      refine J_region ?_
      refine L_q (Q_fa0 rfl) rfl rfl rfl ?_
      refine L_q (Q_ldA 0 rfl rfl rfl) rfl rfl rfl ?_
      refine L_q (Q_move rfl) rfl rfl rfl ?_
      refine L_q (Q_build rfl) rfl rfl rfl ?_
      refine L_o rfl rfl rfl (O_call [] [0,1,2,3,4,5,6] hdo rfl rfl ?_)
      rintro _ _ ⟨rfl, rfl⟩
      refine JL.norm ?_
      refine L_q (Q_move rfl) rfl rfl rfl ?_
      refine L_q (Q_extract (v := dkV (putF ⟨n0, [], 0⟩ t).d) rfl rfl) rfl rfl rfl ?_
      refine L_q (Q_extract (v := .int .i64 0) rfl rfl) rfl rfl rfl ?_
      refine L_o rfl rfl rfl (O_alloc fun b11 => ?_)
      refine L_s rfl rfl (O_stW 0 rfl rfl rfl rfl ?_)
      refine JL.norm ?_
      refine L_q (Q_assign rfl) rfl rfl rfl ?_
      refine JL_nil ?_
      refine seqQ_normal ?_
      refine J_seq ?_
      refine J_region ?_
      refine L_q (Q_ldA 0 rfl rfl rfl) rfl rfl rfl ?_
      refine L_q (Q_fa0 rfl) rfl rfl rfl ?_
      refine L_s rfl rfl (O_st (sz := 2) (cs' := [.int .i64 (n0 : Int), str (putF ⟨n0, [], 0⟩ t).d.b, .int .i64 ((putF ⟨n0, [], 0⟩ t).d.s : Int), SV.nil.v]) 1 rfl rfl rfl rfl rfl (by simp [Value.oneCell', Value.cells]) (by simp) rfl ?_)
      refine JL.norm ?_
      refine JL_nil ?_
      refine seqQ_normal ?_
      refine J_seq ?_
      refine J.ent (Ent.mk fun _ _ h => (h.lay_nil tS true : Sat _ _ (slc tS true SV.nil [] :: _))) ?_
      refine J_region ?_
      refine L_q (Q_fa0 rfl) rfl rfl rfl ?_
      refine L_q (Q_ld 2 rfl rfl rfl rfl) rfl rfl rfl ?_
      refine L_o rfl rfl rfl (O_app (τ := tS) 0 rfl (fun w h => h.rd 3 rfl) rfl rfl rfl rfl (by simp only [List.length_nil]; omega) (by decide) (fun L1 => ?_))
      refine JL.norm ?_
      refine L_q (Q_move rfl) rfl rfl rfl ?_
      refine L_o rfl rfl rfl (O_litP (τ := tS) (m := 1) (sz := 1) [t] rfl rfl rfl rfl rfl rfl (by decide) (fun L2 => ?_))
      refine JL.norm ?_
      refine L_o rfl rfl rfl (O_app (τ := tS) 1 rfl (fun w h => h.rd 0 rfl) rfl rfl rfl rfl (by simp only [List.nil_append, List.length_singleton, List.length_nil]; omega) (by decide) (fun L3 => ?_))
      refine JL.norm ?_
      refine L_q (Q_fa0 rfl) rfl rfl rfl ?_
      refine L_s rfl rfl (O_st1 3 rfl rfl rfl rfl rfl ?_)
      refine JL.norm ?_
      refine JL_nil ?_
      refine seqQ_normal ?_
      refine J_seq ?_
      rw [List.nil_append]
      refine J.have (p := L3.n = (([] : List (List UInt8)) ++ [t]).length) (fun w hs => (hs.rd 1 rfl).1) fun hn3 => ?_
      refine J_region ?_
      refine L_q (Q_ldA 7 rfl rfl rfl) rfl rfl rfl ?_
      refine L_q (Q_ldA 3 rfl rfl rfl) rfl rfl rfl ?_
      refine L_o rfl rfl rfl (O_call [8] [0,1,2,3,4,5,6,7,9] (rlast_ok E size su X4 qs (⟨n0, [], 0⟩, SV.nil) (putF ⟨n0, [], 0⟩ t, L3) (by omega)) rfl rfl ?_)
      rintro _ _ ⟨X', rfl, rfl⟩
      refine JL.norm ?_
      refine L_q (Q_move rfl) rfl rfl rfl ?_
      refine L_s rfl rfl (O_stW 7 rfl rfl rfl rfl ?_)
      refine JL.norm ?_
      refine L_q (Q_assign rfl) rfl rfl rfl ?_
      refine L_q (Q_assign rfl) rfl rfl rfl ?_
      refine JL_nil ?_
      refine seqQ_normal ?_
      refine J_ret ?_
      refine retQ_ret _ [slc tF true X' (qs ++ [(putF ⟨n0, [], 0⟩ t, L3)]), rowsC (qs ++ [(putF ⟨n0, [], 0⟩ t, L3)])] (.cons (RV_cell 7 rfl rfl rfl rfl) (.cons (RV_tmp rfl) (.cons (RV_tmp rfl) .nil))) ⟨X', qs ++ [(putF ⟨n0, [], 0⟩ t, L3)], rfl, by simp, ?_, rfl⟩ ?_
      · intro r' hr'
        rw [List.mem_append, List.mem_singleton] at hr'
        rcases hr' with hr' | rfl
        · exact hqn r' (by simp [hr'])
        · exact hn3
      · exact (Ent.re [2, 6, 0, 9] rfl).trans ((Ent.last_in recAt qs (putF ⟨n0, [], 0⟩ t, L3)).trans (Ent.re [1, 0, 2] rfl))
    · have hlen0 : rs.length = a.length + 1 := by rw [h0]; simp
      have hlt0 : a.length < rs.length := by omega
      have hgl0 : rs[a.length] = r := by simp [h0]
      refine J_drawH [1,2] [0, 1, 2, 3, 4, 5, 6, 7, 8, 9, 10, 11, 12, 13, 14, 15, 16, 17, 18, 19, 20, 21, 22] (.quiet 0 (.quiet 1 (.quiet 2 (.quiet 3 (.quiet 4 (.quiet 5 (.quiet 6 (.quiet 7 (.quiet 8 (.quiet 9 (.quiet 10 (.quiet 11 (.quiet 12 (.quiet 13 (.quiet 14 (.quiet 15 (.quiet 16 (.quiet 17 (.quiet 18 (.quiet 19 (.quiet 20 (.quiet 21 (.quiet 22 .done))))))))))))))))))))))) Try.mixed (by kernel_rfl) (by kernel_rfl) (by repeat (first | exact retQ_noP | refine seqQ_noP ?_ | refine blockQ_noP ?_ | refine loopQ_noP ?_ | refine scopeQ_noP ?_)) ?_
      refine S_q (Ent.re [1,2] rfl) rfl (Q_fa0 rfl) rfl rfl rfl ?_
      refine S_q (Ent.re [1,2] rfl) rfl (Q_ld 0 rfl rfl rfl rfl) rfl rfl rfl ?_
      refine S_q (Ent.re [1,2] rfl) rfl (Q_lenAt 1 rfl rfl) rfl rfl rfl ?_
      refine S_q (Ent.re [1,2] rfl) rfl ((Q_eql rfl rfl).as (v' := .bool false) (congrArg Value.bool (decide_eq_false (by omega)))) rfl rfl rfl ?_
      refine S_q (Ent.re [1,2] rfl) rfl (Q_move rfl) rfl rfl rfl ?_
      refine S_q (Ent.re [1,2] rfl) rfl (Q_fa0 rfl) rfl rfl rfl ?_
      refine S_q (Ent.re [1,2] rfl) rfl (Q_ld 0 rfl rfl rfl rfl) rfl rfl rfl ?_
      refine S_q (Ent.re [1,2] rfl) rfl (Q_fa0 rfl) rfl rfl rfl ?_
      refine S_q (Ent.re [1,2] rfl) rfl (Q_ld 0 rfl rfl rfl rfl) rfl rfl rfl ?_
      refine S_q (Ent.re [1,2] rfl) rfl (Q_lenAt 1 rfl rfl) rfl rfl rfl ?_
      refine S_q (Ent.re [1,2] rfl) rfl (Q_sub rfl rfl (IntWalk.i64_in _ (by omega))) rfl rfl rfl ?_
      refine S_q (Ent.re [1,2] rfl) rfl (Q_ixAt 1 a.length rfl rfl rfl (by omega) hlt0 rfl) rfl rfl rfl ?_
      refine S_q (Ent.re [1,2] rfl) rfl (Q_pfa rfl) rfl rfl rfl ?_
      refine S_q (Ent.re [1,2] rfl) rfl (Q_pfa rfl) rfl rfl rfl ?_
      refine S_q (Ent.re [1,2] rfl) rfl (Q_ldEAt 1 a.length 1 (v := str (text r.1.l)) rfl rfl rfl rfl hlt0 (by decide) (by rw [hgl0]; rfl)) rfl rfl rfl ?_
      refine S_q (Ent.re [1,2] rfl) rfl (Q_slen rfl) rfl rfl rfl ?_
      refine S_q (Ent.re [1,2] rfl) rfl (Q_fa0 rfl) rfl rfl rfl ?_
      refine S_q (Ent.re [1,2] rfl) rfl (Q_ld 0 rfl rfl rfl rfl) rfl rfl rfl ?_
      refine S_q (Ent.re [1,2] rfl) rfl (Q_move rfl) rfl rfl rfl ?_
      refine S_q (Ent.re [1,2] rfl) rfl ((Q_slen rfl).as (v' := .int .i64 ((8 + t.length : Nat) : Int)) (by rw [hfl])) rfl rfl rfl ?_
      refine S_q (Ent.re [1,2] rfl) rfl (Q_sub rfl rfl (by first | exact IntWalk.i64_in _ (by omega) | exact IntWalk.u8_in _ (by omega) | exact IntWalk.u32_in _ (by omega) | exact IntWalk.u64_in _ (by omega) | rfl)) rfl rfl rfl ?_
      refine S_q (Ent.re [1,2] rfl) rfl ((Q_gtr rfl rfl).as (v' := .bool true) (congrArg Value.bool (decide_eq_true (by omega)))) rfl rfl rfl ?_
      refine S_q (Ent.re [1,2] rfl) rfl (Q_pickF rfl rfl) rfl rfl rfl ?_
      refine S_nil ?_
      refine seqQ_normal ?_
      refine J_condT rfl ?_
      refine J_seq ?_
      refine J_seq ?_
      by_cases h3 : 16 ≤ rs.length
      · rw [hfull h3]
        refine J_region ?_
        refine L_q (Q_fa0 rfl) rfl rfl rfl ?_
        refine L_q (Q_ld 1 rfl rfl rfl rfl) rfl rfl rfl ?_
        refine L_q (Q_lenAt 2 rfl rfl) rfl rfl rfl ?_
        refine L_q ((Q_geq rfl rfl).as (v' := .bool true) (congrArg Value.bool (decide_eq_true (by omega)))) rfl rfl rfl ?_
        refine JL_nil ?_
        refine seqQ_normal ?_
        refine J_condT rfl ?_
        refine J_seq ?_
        refine J_region ?_
        refine L_q (Q_ldA 1 rfl rfl rfl) rfl rfl rfl ?_
        refine L_s rfl rfl (O_stW 0 rfl rfl rfl rfl ?_)
        refine JL.norm ?_
        refine L_q (Q_assign rfl) rfl rfl rfl ?_
        refine L_q (Q_assign rfl) rfl rfl rfl ?_
        refine JL_nil ?_
        refine seqQ_normal ?_
        refine J_ret ?_
        refine seqQ_ret ?_
        refine seqQ_ret ?_
        exact retQ_ret _ _ (.cons (RV_cell 0 rfl rfl rfl rfl) (.cons (RV_tmp rfl) (.cons (RV_tmp rfl) .nil))) ⟨X, rs, by rw [hgu]; rfl, hgf.symm, hr1, rfl⟩ (Ent.re [2, 3, 4] rfl)
      rw [e h3]
      refine J_region ?_
      refine L_q (Q_fa0 rfl) rfl rfl rfl ?_
      refine L_q (Q_ld 1 rfl rfl rfl rfl) rfl rfl rfl ?_
      refine L_q (Q_lenAt 2 rfl rfl) rfl rfl rfl ?_
      refine L_q ((Q_geq rfl rfl).as (v' := .bool false) (congrArg Value.bool (decide_eq_false (by omega)))) rfl rfl rfl ?_
      refine JL_nil ?_
      refine seqQ_normal ?_
      refine J_condF rfl ?_
      refine J_skip ?_
      refine seqQ_normal ?_
      refine J_seq ?_
      refine J_region ?_
      refine L_q (Q_ldA 1 rfl rfl rfl) rfl rfl rfl ?_
      refine L_o rfl rfl rfl (O_call [2] [0,1,3,4] hsy rfl rfl ?_)
      rintro _ _ ⟨X1, rfl, rfl⟩
      refine JL.norm ?_
      refine L_s rfl rfl (O_stW 2 rfl rfl rfl rfl ?_)
      refine JL.norm ?_
      refine JL_nil ?_
      refine seqQ_normal ?_
      rw [hrows]
      refine J.ent (Ent.mk fun _ _ h => (h.lay_nil tF true : Sat _ _ (slc tF true SV.nil [] :: _))) ?_
      refine J_region ?_
      refine L_q (Q_fa0 rfl) rfl rfl rfl ?_
      refine L_q (Q_ld 3 rfl rfl rfl rfl) rfl rfl rfl ?_
      refine L_o rfl rfl rfl (O_app (τ := tF) 0 rfl (fun w h => h.rd 1 rfl) rfl rfl rfl rfl (by simp only [List.length_nil]; omega) (by decide) (fun X2 => ?_))
      refine JL.norm ?_
      refine L_q (Q_move rfl) rfl rfl rfl ?_
      refine L_q (Q_build rfl) rfl rfl rfl ?_
      refine L_o rfl rfl rfl (O_litP (τ := tF) (m := 1) (sz := 4) [(⟨n0, [], 0⟩, SV.nil)] rfl rfl rfl rfl rfl rfl (by decide) (fun X3 => ?_))
      refine JL.norm ?_
      refine L_o rfl rfl rfl (O_app (τ := tF) 1 rfl (fun w h => h.rd 0 rfl) rfl rfl rfl rfl (by simp only [List.nil_append, List.length_singleton, List.length_nil]; omega) (by decide) (fun X4 => ?_))
      refine JL.norm ?_
      refine L_q (Q_fa0 rfl) rfl rfl rfl ?_
      refine L_s rfl rfl (O_st1 4 rfl rfl rfl rfl rfl ?_)
      refine JL.norm ?_
      refine JL_nil ?_
      refine seqQ_normal ?_
      refine J_seq ?_
      rw [List.nil_append]
      refine J.ent (L' := [cel b4 [.int .i64 0, .int .i64 0, .slice none 0 0] 29, cel b2 [.int .i64 (size : Int), .int .i64 (su : Int), X4.v] 29, slc tF true X4 (qs ++ [(⟨n0, [], 0⟩, SV.nil)]), rowsC (qs ++ [(⟨n0, [], 0⟩, SV.nil)]), F]) ?_ ?_
      · refine (Ent.mk fun _ _ h => (h.lay_nil tS true : Sat _ _ (slc tS true SV.nil [] :: _))).trans ?_
        refine (Ent.re [0, 6, 4, 5, 2, 7] rfl).trans ?_
        exact (Ent.last_in recAt qs (⟨n0, [], 0⟩, SV.nil)).trans (Ent.re [1, 2, 3, 0, 4] rfl)
      have hlenA : (qs ++ [((⟨n0, [], 0⟩ : Fl), SV.nil)]).length = qs.length + 1 := by simp
      have hltA : qs.length < (qs ++ [((⟨n0, [], 0⟩ : Fl), SV.nil)]).length := by omega
      have hglA := snoc_get qs ((⟨n0, [], 0⟩ : Fl), SV.nil) hltA
      have hdw := doD_write ⟨n0, [], 0⟩ t (by simp [text]; omega)
      have hdo := rdo_ok E (⟨n0, [], 0⟩ : Fl).d ⟨1, frame t, 0⟩ (Nat.two_pow_pos 64) ⟨Nat.le_refl _, by simp [Fl.d, text]⟩ (by simp only; omega)
      rw [hdw] at hdo
      dsimp only at hdo
      refine J.ent ((Ent.re [3, 0, 1, 2, 4] rfl).trans (Ent.last_out recAt qs (⟨n0, [], 0⟩, SV.nil))) ?_
      refine J_region ?_
      refine L_q (Q_fa0 rfl) rfl rfl rfl ?_
      refine L_q (Q_ld 3 rfl rfl rfl rfl) rfl rfl rfl ?_
      refine L_q (Q_fa0 rfl) rfl rfl rfl ?_
      refine L_q (Q_ld 3 rfl rfl rfl rfl) rfl rfl rfl ?_
      refine L_q (Q_lenAt 4 rfl rfl) rfl rfl rfl ?_
      refine L_q (Q_sub rfl rfl (IntWalk.i64_in _ (by omega))) rfl rfl rfl ?_
      refine L_q (Q_ixAt 4 qs.length rfl rfl rfl (by omega) hltA rfl) rfl rfl rfl ?_
      refine L_q (Q_ldEAAt 4 qs.length 0 (vs := [.int .i64 (n0 : Int), str (text ([] : List (List UInt8))), .int .i64 (0 : Int), SV.nil.v]) rfl rfl rfl rfl hltA (by decide) (by rw [hglA]; rfl)) rfl rfl rfl ?_
      refine L_o rfl rfl rfl (O_alloc fun b10 => ?_)
      refine L_s rfl rfl (O_stW 0 rfl rfl rfl rfl ?_)
      refine JL.norm ?_
      refine JL_nil ?_
      refine seqQ_normal ?_
      refine J_seq ?_
      refine J_region ?_
      refine L_q (Q_fa0 rfl) rfl rfl rfl ?_
      refine L_q (Q_ldA 0 rfl rfl rfl) rfl rfl rfl ?_
      refine L_q (Q_move rfl) rfl rfl rfl ?_
      refine L_q (Q_build rfl) rfl rfl rfl ?_
      refine L_o rfl rfl rfl (O_call [] [0,1,2,3,4,5,6] hdo rfl rfl ?_)
      rintro _ _ ⟨rfl, rfl⟩
      refine JL.norm ?_
      refine L_q (Q_move rfl) rfl rfl rfl ?_
      refine L_q (Q_extract (v := dkV (putF ⟨n0, [], 0⟩ t).d) rfl rfl) rfl rfl rfl ?_
      refine L_q (Q_extract (v := .int .i64 0) rfl rfl) rfl rfl rfl ?_
      refine L_o rfl rfl rfl (O_alloc fun b11 => ?_)
      refine L_s rfl rfl (O_stW 0 rfl rfl rfl rfl ?_)
      refine JL.norm ?_
      refine L_q (Q_assign rfl) rfl rfl rfl ?_
      refine JL_nil ?_
      refine seqQ_normal ?_
      refine J_seq ?_
      refine J_region ?_
      refine L_q (Q_ldA 0 rfl rfl rfl) rfl rfl rfl ?_
      refine L_q (Q_fa0 rfl) rfl rfl rfl ?_
      refine L_s rfl rfl (O_st (sz := 2) (cs' := [.int .i64 (n0 : Int), str (putF ⟨n0, [], 0⟩ t).d.b, .int .i64 ((putF ⟨n0, [], 0⟩ t).d.s : Int), SV.nil.v]) 1 rfl rfl rfl rfl rfl (by simp [Value.oneCell', Value.cells]) (by simp) rfl ?_)
      refine JL.norm ?_
      refine JL_nil ?_
      refine seqQ_normal ?_
      refine J_seq ?_
      refine J.ent (Ent.mk fun _ _ h => (h.lay_nil tS true : Sat _ _ (slc tS true SV.nil [] :: _))) ?_
      refine J_region ?_
      refine L_q (Q_fa0 rfl) rfl rfl rfl ?_
      refine L_q (Q_ld 2 rfl rfl rfl rfl) rfl rfl rfl ?_
      refine L_o rfl rfl rfl (O_app (τ := tS) 0 rfl (fun w h => h.rd 3 rfl) rfl rfl rfl rfl (by simp only [List.length_nil]; omega) (by decide) (fun L1 => ?_))
      refine JL.norm ?_
      refine L_q (Q_move rfl) rfl rfl rfl ?_
      refine L_o rfl rfl rfl (O_litP (τ := tS) (m := 1) (sz := 1) [t] rfl rfl rfl rfl rfl rfl (by decide) (fun L2 => ?_))
      refine JL.norm ?_
      refine L_o rfl rfl rfl (O_app (τ := tS) 1 rfl (fun w h => h.rd 0 rfl) rfl rfl rfl rfl (by simp only [List.nil_append, List.length_singleton, List.length_nil]; omega) (by decide) (fun L3 => ?_))
      refine JL.norm ?_
      refine L_q (Q_fa0 rfl) rfl rfl rfl ?_
      refine L_s rfl rfl (O_st1 3 rfl rfl rfl rfl rfl ?_)
      refine JL.norm ?_
      refine JL_nil ?_
      refine seqQ_normal ?_
      refine J_seq ?_
      rw [List.nil_append]
      refine J.have (p := L3.n = (([] : List (List UInt8)) ++ [t]).length) (fun w hs => (hs.rd 1 rfl).1) fun hn3 => ?_
      refine J_region ?_
      refine L_q (Q_ldA 7 rfl rfl rfl) rfl rfl rfl ?_
      refine L_q (Q_ldA 3 rfl rfl rfl) rfl rfl rfl ?_
      refine L_o rfl rfl rfl (O_call [8] [0,1,2,3,4,5,6,7,9] (rlast_ok E size su X4 qs (⟨n0, [], 0⟩, SV.nil) (putF ⟨n0, [], 0⟩ t, L3) (by omega)) rfl rfl ?_)
      rintro _ _ ⟨X', rfl, rfl⟩
      refine JL.norm ?_
      refine L_q (Q_move rfl) rfl rfl rfl ?_
      refine L_s rfl rfl (O_stW 7 rfl rfl rfl rfl ?_)
      refine JL.norm ?_
      refine L_q (Q_assign rfl) rfl rfl rfl ?_
      refine L_q (Q_assign rfl) rfl rfl rfl ?_
      refine JL_nil ?_
      refine seqQ_normal ?_
      refine J_ret ?_
      refine retQ_ret _ [slc tF true X' (qs ++ [(putF ⟨n0, [], 0⟩ t, L3)]), rowsC (qs ++ [(putF ⟨n0, [], 0⟩ t, L3)])] (.cons (RV_cell 7 rfl rfl rfl rfl) (.cons (RV_tmp rfl) (.cons (RV_tmp rfl) .nil))) ⟨X', qs ++ [(putF ⟨n0, [], 0⟩ t, L3)], rfl, by simp, ?_, rfl⟩ ?_
      · intro r' hr'
        rw [List.mem_append, List.mem_singleton] at hr'
        rcases hr' with hr' | rfl
        · exact hqn r' (by simp [hr'])
        · exact hn3
      · exact (Ent.re [2, 6, 0, 9] rfl).trans ((Ent.last_in recAt qs (putF ⟨n0, [], 0⟩ t, L3)).trans (Ent.re [1, 0, 2] rfl))
end Go.Proofs
