/- A log in files: is there room; a drop; an append. -/
import Derived.Test.YtogjhcelmbhooaaSeg5
set_option autoImplicit false
namespace Go.Proofs
open Go.SL
attribute [local irreducible] J JL QOp JOp seqQ blockQ loopQ retQ slc cel hex star pur stars Does RV Ent pAt
attribute [local irreducible] fileAt diskAt
theorem room_ok (E : World) (p size sure n : Nat) (S : SV) (ps : List Fp) (hps : ps.length ≤ 16) (hn : n ≤ size) (hs : size ≤ 8192) :
    Does Try.prog E 32 [.pointer (some ⟨p, 0, none⟩), .int .i64 (n : Int)] [segC p size sure S, slc tPf true S ps, fsC ps] fun v L => v = .bool (roomB ⟨size, sure, ps.map (·.1)⟩ n) ∧ L = [segC p size sure S, slc tPf true S ps, fsC ps] := by
  have hl := last_ok E p size sure S ps hps
  refine Does.of Try.func32 rfl Try.ntmps32 rfl rfl fun F => ?_
  refine J.norm ?_
  rcases last_cases ps with rfl | ⟨a, ⟨f, q⟩, rfl⟩
  · rw [show lastP [] = .pointer none from rfl] at hl
    refine J_seq ?_
    refine J_region ?_
    refine L_q (Q_assign rfl) rfl rfl rfl ?_
    refine JL_nil ?_
    refine seqQ_normal ?_
    refine J_seq ?_
    refine J_region ?_
    refine L_q (Q_move rfl) rfl rfl rfl ?_
    refine L_o rfl rfl rfl (O_call [0,1] [2,3] hl rfl rfl ?_)
    rintro _ _ ⟨rfl, rfl⟩
    refine JL.norm ?_
    refine L_q (Q_assign rfl) rfl rfl rfl ?_
    refine JL_nil ?_
    refine seqQ_normal ?_
    refine J_seq ?_
    refine J_drawL [0, 1, 2, 3, 4, 5, 6, 8, 9, 10, 11, 12, 13, 14, 15, 16, 17] (.quiet 0 (.quiet 1 (.quiet 2 (.quiet 3 (.quiet 4 (.quiet 5 (.quiet 6 (.quiet 9 (.quiet 10 (.quiet 11 (.quiet 12 (.quiet 13 (.quiet 14 (.loud 7 (.quiet 8 (.quiet 15 (.quiet 16 (.quiet 17 .done)))))))))))))))))) Try.mixed (by kernel_rfl) (by kernel_rfl) (by repeat (first | exact retQ_noP | refine seqQ_noP ?_ | refine blockQ_noP ?_ | refine loopQ_noP ?_ | refine scopeQ_noP ?_)) ?_
    refine S_q (Ent.refl _) rfl (Q_move rfl) rfl rfl rfl ?_
    refine S_q (Ent.refl _) rfl ((Q_pneq rfl rfl).as (v' := .bool false) rfl) rfl rfl rfl ?_
    refine S_q (Ent.refl _) rfl (Q_move rfl) rfl rfl rfl ?_
    refine S_n (Ent.refl _) rfl rfl rfl rfl ?_
    refine S_n (Ent.refl _) rfl rfl rfl rfl ?_
    refine S_n (Ent.refl _) rfl rfl rfl rfl ?_
    refine S_n (Ent.refl _) rfl rfl rfl rfl ?_
    refine S_n (Ent.refl _) rfl rfl rfl rfl ?_
    refine S_n (Ent.refl _) rfl rfl rfl rfl ?_
    refine S_n (Ent.refl _) rfl rfl rfl rfl ?_
    refine S_n (Ent.refl _) rfl rfl rfl rfl ?_
    refine S_n (Ent.refl _) rfl rfl rfl rfl ?_
    refine S_n (Ent.refl _) rfl rfl rfl rfl ?_
    refine S_no rfl rfl rfl rfl (fun _ => (Ent.refl _)) ?_
    refine S_n (Ent.refl _) rfl rfl rfl rfl ?_
    refine S_n (Ent.refl _) rfl rfl rfl rfl ?_
    refine S_q (Ent.refl _) rfl (Q_pickF rfl rfl) rfl rfl rfl ?_
    refine S_q (Ent.refl _) rfl (Q_assign rfl) rfl rfl rfl ?_
    refine S_nil ?_
    refine seqQ_normal ?_
    refine J_ret ?_
    exact retQ_ret _ [segC p size sure S, slc tPf true S [], fsC []] (.cons (RV_tmp rfl) .nil) ⟨rfl, rfl⟩ (Ent.refl _)
  · rw [lastP_snoc] at hl
    refine J_seq ?_
    refine J_region ?_
    refine L_q (Q_assign rfl) rfl rfl rfl ?_
    refine JL_nil ?_
    refine seqQ_normal ?_
    refine J_seq ?_
    refine J_region ?_
    refine L_q (Q_move rfl) rfl rfl rfl ?_
    refine L_o rfl rfl rfl (O_call [0,1] [2,3] hl rfl rfl ?_)
    rintro _ _ ⟨rfl, rfl⟩
    refine JL.norm ?_
    refine L_q (Q_assign rfl) rfl rfl rfl ?_
    refine JL_nil ?_
    refine seqQ_normal ?_
    refine J_seq ?_
    refine J.ent ((Ent.re [2, 0, 1, 3] rfl).trans (Ent.last_out fileAt a (f, q))) ?_
    refine J_file fun S1 dp => ?_
    have htx := text_ok E dp f.d
    have hdb : f.d.b = text f.l := rfl
    rw [hdb] at htx
    have e : roomB ⟨size, sure, (a ++ [(f, q)]).map (·.1)⟩ n = decide ((text f.l).length + n ≤ size) := by
      simp [roomB]
    rw [e]
    refine J_drawH [0,4] [0, 1, 2, 3, 4, 5, 6, 8, 9, 10, 11, 12, 13, 14, 15, 16, 17] (.quiet 0 (.quiet 1 (.quiet 2 (.quiet 3 (.quiet 4 (.quiet 5 (.quiet 6 (.quiet 9 (.quiet 10 (.quiet 11 (.quiet 12 (.quiet 13 (.quiet 14 (.loud 7 (.quiet 8 (.quiet 15 (.quiet 16 (.quiet 17 .done)))))))))))))))))) Try.mixed (by kernel_rfl) (by kernel_rfl) (by repeat (first | exact retQ_noP | refine seqQ_noP ?_ | refine blockQ_noP ?_ | refine loopQ_noP ?_ | refine scopeQ_noP ?_)) ?_
    refine S_q (Ent.re [0,4] rfl) rfl (Q_move rfl) rfl rfl rfl ?_
    refine S_q (Ent.re [0,4] rfl) rfl ((Q_pneq rfl rfl).as (v' := .bool true) rfl) rfl rfl rfl ?_
    refine S_q (Ent.re [0,4] rfl) rfl (Q_move rfl) rfl rfl rfl ?_
    refine S_q (Ent.re [0,4] rfl) rfl (Q_move rfl) rfl rfl rfl ?_
    refine S_q (Ent.re [0,4] rfl) rfl (Q_nilCheck rfl) rfl rfl rfl ?_
    refine S_q (Ent.re [0,4] rfl) rfl (Q_fa0 rfl) rfl rfl rfl ?_
    refine S_q (Ent.re [0,4] rfl) rfl (Q_ld 0 rfl rfl rfl rfl) rfl rfl rfl ?_
    refine S_q (Ent.re [0,4] rfl) rfl (Q_move rfl) rfl rfl rfl ?_
    refine S_q (Ent.re [0,4] rfl) rfl (Q_nilCheck rfl) rfl rfl rfl ?_
    refine S_q (Ent.re [0,4] rfl) rfl (Q_fa0 rfl) rfl rfl rfl ?_
    refine S_q (Ent.re [0,4] rfl) rfl (Q_ld 1 rfl rfl rfl rfl) rfl rfl rfl ?_
    refine S_q (Ent.re [0,4] rfl) rfl (Q_move rfl) rfl rfl rfl ?_
    refine S_q (Ent.re [0,4] rfl) rfl (Q_sub rfl rfl (by first | exact IntWalk.i64_in _ (by omega) | exact IntWalk.u8_in _ (by omega) | exact IntWalk.u32_in _ (by omega) | exact IntWalk.u64_in _ (by omega) | rfl)) rfl rfl rfl ?_
    refine S_o rfl rfl rfl rfl (O_call [2] [0,1,3,4,5,6] htx rfl rfl ?_)
    (rintro _ _ ⟨rfl, rfl⟩; refine ⟨_, fun _ => ⟨Ent.reN [1,4] rfl, Ent.refl _⟩, ?_⟩)
    refine JS.norm ?_
    refine S_q (Ent.re [1,4] rfl) rfl (Q_slen rfl) rfl rfl rfl ?_
    refine S_q (Ent.re [1,4] rfl) rfl ((Q_leq rfl rfl).as (v' := .bool (decide ((text f.l).length + n ≤ size))) (congrArg Value.bool (by apply decide_eq_decide.2; omega))) rfl rfl rfl ?_
    refine S_q (Ent.re [1,4] rfl) rfl (Q_pickT rfl rfl) rfl rfl rfl ?_
    refine S_q (Ent.re [1,4] rfl) rfl (Q_assign rfl) rfl rfl rfl ?_
    refine S_nil ?_
    refine seqQ_normal ?_
    refine J_ret ?_
    exact retQ_ret _ [segC p size sure S, slc tPf true S (a ++ [(f, q)]), fsC (a ++ [(f, q)])] (.cons (RV_tmp rfl) .nil) ⟨rfl, rfl⟩ (((Ent.re [1, 2, 0, 3, 4, 5, 6] rfl).trans (fileAt_mk (f := f) rfl rfl rfl rfl)).trans ((Ent.last_in fileAt a (f, q)).trans (Ent.re [1, 2, 0, 3] rfl)))
theorem delete_ok (E : World) (S : SV) (l : List Fp) (i j : Nat) (hij : i ≤ j) (hj : j ≤ l.length) (hl : l.length ≤ 100000) :
    Does Try.prog E 38 [S.v, .int .i64 (i : Int), .int .i64 (j : Int)] [slc tPf true S l] fun v L => ∃ S' : SV, v = S'.v ∧ L = [slc tPf true S' (l.take i ++ l.drop j)] := by
  refine Does.of Try.func38 rfl Try.ntmps38 rfl rfl fun F => ?_
  refine J.norm ?_
  refine J.have (p := S.n = l.length ∧ S.n ≤ S.c) (fun w hs => ⟨(hs.rd 0 rfl).1, (hs.rd 0 rfl).2.1⟩) fun hS => ?_
  refine J_seq ?_
  refine J_region ?_
  refine L_q (Q_assign rfl) rfl rfl rfl ?_
  refine JL_nil ?_
  refine seqQ_normal ?_
  refine J_seq ?_
  refine J_region ?_
  refine L_q (Q_move rfl) rfl rfl rfl ?_
  refine L_q (Q_move rfl) rfl rfl rfl ?_
  refine L_q (Q_move rfl) rfl rfl rfl ?_
  refine L_q (Q_move rfl) rfl rfl rfl ?_
  refine L_q (Q_lenAt 0 rfl rfl) rfl rfl rfl ?_
  refine L_q (Q_sl3 (τ := tPf) i j l.length rfl rfl rfl rfl rfl rfl rfl hij hj (by omega) rfl) rfl rfl rfl ?_
  refine JL_nil ?_
  refine seqQ_normal ?_
  refine J_seq ?_
  refine J_seq ?_
  refine J_region ?_
  refine L_q (Q_move rfl) rfl rfl rfl ?_
  refine L_q (Q_move rfl) rfl rfl rfl ?_
  refine L_q (Q_eql rfl rfl) rfl rfl rfl ?_
  refine JL_nil ?_
  refine seqQ_normal ?_
  refine J_condD rfl (fun h => ?_) (fun h => ?_)
  · obtain rfl : i = j := by omega
    refine J_seq ?_
    refine J_region ?_
    refine L_q (Q_move rfl) rfl rfl rfl ?_
    refine L_q (Q_assign rfl) rfl rfl rfl ?_
    refine JL_nil ?_
    refine seqQ_normal ?_
    refine J_ret ?_
    refine seqQ_ret ?_
    exact retQ_ret _ [slc tPf true S l] (.cons (RV_tmp rfl) .nil) ⟨S, rfl, by rw [List.take_append_drop]⟩ (Ent.refl _)
  · have hm : (l.take l.length).drop j = l.drop j := by rw [List.take_length]
    have hlen : (l.take i ++ l.drop j).length = i + (l.length - j) := by simp; omega
    refine J_skip ?_
    refine seqQ_normal ?_
    refine J_seq ?_
    refine J_region ?_
    refine L_q (Q_move rfl) rfl rfl rfl ?_
    refine L_q (Q_lenAt 0 rfl rfl) rfl rfl rfl ?_
    refine L_q (Q_assign rfl) rfl rfl rfl ?_
    refine JL_nil ?_
    refine seqQ_normal ?_
    refine J_seq ?_
    refine J_drawH [] [0, 1, 2, 3, 4, 5, 7] (.quiet 0 (.quiet 1 (.quiet 2 (.quiet 3 (.quiet 4 (.quiet 5 (.loud 6 (.quiet 7 .done)))))))) Try.mixed (by kernel_rfl) (by kernel_rfl) (by repeat (first | exact retQ_noP | refine seqQ_noP ?_ | refine blockQ_noP ?_ | refine loopQ_noP ?_ | refine scopeQ_noP ?_)) ?_
    refine S_q (Ent.re [] rfl) rfl (Q_move rfl) rfl rfl rfl ?_
    refine S_q (Ent.re [] rfl) rfl (Q_move rfl) rfl rfl rfl ?_
    refine S_q (Ent.re [] rfl) rfl (Q_slHc (τ := tPf) i rfl rfl rfl (by omega)) rfl rfl rfl ?_
    refine S_q (Ent.re [] rfl) rfl (Q_move rfl) rfl rfl rfl ?_
    refine S_q (Ent.re [] rfl) rfl (Q_move rfl) rfl rfl rfl ?_
    refine S_q (Ent.re [] rfl) rfl (Q_slLc (τ := tPf) j l.length rfl rfl rfl hS.1 hj rfl) rfl rfl rfl ?_
    refine S_o rfl rfl rfl rfl (O_appIn (τ := tPf) 0 i rfl (fun w h => (h.rd 0 rfl).sub j l.length hj (Nat.le_refl _)) rfl rfl rfl (by omega) (by simp; omega) ⟨[], fun _ => ⟨Ent.re [] rfl, Ent.refl _⟩, ?_⟩)
    refine JS.norm ?_
    refine S_q (Ent.re [] rfl) rfl (Q_assign rfl) rfl rfl rfl ?_
    refine S_nil ?_
    refine seqQ_normal ?_
    refine J_seq ?_
    rw [hm]
    have hS' : (⟨(S.sub tPf.sz 0 i).a, i + (l.drop j).length, S.c⟩ : SV).c = S.c := rfl
    generalize (⟨(S.sub tPf.sz 0 i).a, i + (l.drop j).length, S.c⟩ : SV) = T at hS' ⊢
    refine J_region ?_
    refine L_q (Q_move rfl) rfl rfl rfl ?_
    refine L_q (Q_move rfl) rfl rfl rfl ?_
    refine L_q (Q_lenAt 0 rfl rfl) rfl rfl rfl ?_
    refine L_q (Q_move rfl) rfl rfl rfl ?_
    refine L_q (Q_slLHc (τ := tPf) (i + (l.length - j)) l.length rfl rfl rfl (by rw [hlen]) rfl (by omega) (by omega) rfl) rfl rfl rfl ?_
    refine L_s rfl rfl (O_clear (τ := tPf) 0 (i + (l.length - j)) l.length rfl rfl rfl rfl (by simp [Value.cells, Value.oneCell']) (by omega) (by omega) (by omega) ?_)
    refine JL.norm ?_
    refine JL_nil ?_
    refine seqQ_normal ?_
    refine J_seq ?_
    refine J_region ?_
    refine L_q (Q_move rfl) rfl rfl rfl ?_
    refine L_q (Q_assign rfl) rfl rfl rfl ?_
    refine JL_nil ?_
    refine seqQ_normal ?_
    refine J_ret ?_
    exact retQ_ret _ [slc tPf true T (l.take i ++ l.drop j)] (.cons (RV_tmp rfl) .nil) ⟨T, rfl, rfl⟩ (Ent.refl _)
end Go.Proofs
