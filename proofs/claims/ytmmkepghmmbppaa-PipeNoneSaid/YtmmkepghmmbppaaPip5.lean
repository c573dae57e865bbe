/- A pipe: a frame taken. -/
import Derived.Test.YtmmkepghmmbppaaPip4
set_option autoImplicit false
namespace Go.SL
theorem J.cut0 {P : Program} {E : World} {n : Nat} {c d : Code} {Q : Post} {ρ : Env} {L : List HProp} (M : Post) (h : J P E n c (seqQ P E n d M) ρ L) (hq : ∀ e ρ L, M e ρ L → Q e ρ L) : J P E n c (seqQ P E n d Q) ρ L := by
  refine h.mono fun e ρ L he => ?_
  cases e with
  | normal => exact J.mono (show J P E n d M ρ L from he) hq
  | _ => simp only [seqQ] at he ⊢; exact hq _ _ _ he
end Go.SL
namespace Go.Proofs
open Go.SL
def takeE (s : By) : Int := (readP s).2.2.2
theorem hv_val (l : List (Int × By)) (k : Int) : ((mget l k).map mH.venc).getD (.string ⟨#[]⟩) = str (hv l k) := by
  unfold hv
  cases mget l k <;> rfl
attribute [local irreducible] J JL QOp JOp seqQ blockQ loopQ retQ slc cel hex star pur stars Does RV Ent pAt scopeQ
attribute [local irreducible] mpC pipeA
theorem ptake_ok (E : World) (p : Nat) (st : Ps) (c : Nat) (s : By) (h : PV st c) (hc : c ≤ 100000) (hs : s.length ≤ 100000) : Does Try.prog E 11 [.pointer (some ⟨p, 0, none⟩), str s] [pipeA p st] fun v L => v = .int .i64 (takeE s) ∧ L = [pipeA p (takeS st s)] := by
  have hrd := pread_ok E s hs
  have hr2 := h.r2
  have hol := h.ol
  have htl := h.tl
  have hLl := h.Ll
  have hrg := readP_rng s
  have htS : takeS st s = if (readP s).2.2.2 ≠ 0 then st else if (readP s).1 < 0 then ackS st (readP s).2.1 else bodyS (ackS st (readP s).2.1) (readP s).1 (readP s).2.2.1 := rfl
  have htE : takeE s = (readP s).2.2.2 := rfl
  rw [htE, htS]
  clear htS htE
  generalize readP s = z at *
  obtain ⟨q, u, tx, e⟩ := z
  dsimp only at hrd hrg ⊢
  refine Does.of Try.func11 rfl Try.ntmps11 rfl rfl fun F => ?_
  refine J.norm ?_
  refine J.pipe fun w wr t tr r S T m tm hb hrl => ?_
  refine J_seq ?_
  refine J_region ?_
  refine L_q (Q_assign rfl) rfl rfl rfl ?_
  refine JL_nil ?_
  refine seqQ_normal ?_
  refine J_seq ?_
  refine J_seq ?_
  refine J_region ?_
  refine L_q (Q_move rfl) rfl rfl rfl ?_
  refine L_q ((Q_peql rfl rfl).as (v' := .bool false) rfl) rfl rfl rfl ?_
  refine JL_nil ?_
  refine seqQ_normal ?_
  refine J_condF rfl ?_
  refine J_skip ?_
  refine seqQ_normal ?_
  refine J_seq ?_
  refine J_region ?_
  refine L_q (Q_move rfl) rfl rfl rfl ?_
  refine L_o rfl rfl rfl (O_call [] [0,1,2,3,4,5,6,7,8] hrd rfl rfl ?_)
  rintro _ _ ⟨rfl, rfl⟩
  refine JL.norm ?_
  refine L_q (Q_move rfl) rfl rfl rfl ?_
  refine L_q (Q_extract (v := .int .i64 q) rfl rfl) rfl rfl rfl ?_
  refine L_q (Q_extract (v := .int .i64 u) rfl rfl) rfl rfl rfl ?_
  refine L_q (Q_extract (v := str tx) rfl rfl) rfl rfl rfl ?_
  refine L_q (Q_extract (v := .int .i64 e) rfl rfl) rfl rfl rfl ?_
  refine L_o rfl rfl rfl (O_alloc fun b6 => ?_)
  refine L_q (Q_assign rfl) rfl rfl rfl ?_
  refine L_s rfl rfl (O_st1 0 rfl rfl rfl rfl rfl ?_)
  refine JL.norm ?_
  refine L_q (Q_assign rfl) rfl rfl rfl ?_
  refine L_q (Q_assign rfl) rfl rfl rfl ?_
  refine JL_nil ?_
  refine seqQ_normal ?_
  refine J_seq ?_
  refine J_seq ?_
  by_cases he : e ≠ 0
  · rw [if_pos he]
    refine J_region ?_
    refine L_q (Q_move rfl) rfl rfl rfl ?_
    refine L_q ((Q_neq rfl rfl).as (v' := .bool true) (congrArg Value.bool (decide_eq_true he))) rfl rfl rfl ?_
    refine JL_nil ?_
    refine seqQ_normal ?_
    refine J_condT rfl ?_
    refine J_seq ?_
    refine J_region ?_
    refine L_q (Q_move rfl) rfl rfl rfl ?_
    refine L_q (Q_assign rfl) rfl rfl rfl ?_
    refine JL_nil ?_
    refine seqQ_normal ?_
    refine J_ret ?_
    refine seqQ_ret ?_
    exact retQ_ret _ [pipeA p st] (.cons (RV_tmp rfl) .nil) ⟨rfl, rfl⟩ ((Ent.re [1, 2, 3, 4, 5, 6, 7, 8, 9] rfl).trans (Ent.pipe hb hrl))
  rw [if_neg he]
  obtain rfl : e = 0 := Classical.not_not.1 he
  refine J_region ?_
  refine L_q (Q_move rfl) rfl rfl rfl ?_
  refine L_q ((Q_neq rfl rfl).as (v' := .bool false) rfl) rfl rfl rfl ?_
  refine JL_nil ?_
  refine seqQ_normal ?_
  refine J_condF rfl ?_
  refine J_skip ?_
  refine seqQ_normal ?_
  refine J_seq ?_
  refine J_drawH [1,0] [0, 1, 2, 3, 4] (.quiet 0 (.quiet 1 (.quiet 2 (.quiet 3 (.quiet 4 (.loud 5 .done)))))) Try.mixed (by kernel_rfl) (by kernel_rfl) (by repeat (first | exact retQ_noP | refine seqQ_noP ?_ | refine blockQ_noP ?_ | refine loopQ_noP ?_ | refine scopeQ_noP ?_ | (intro _ _ _ h; cases h.1))) ?_
  refine S_q (Ent.re [1,0] rfl) rfl (Q_move rfl) rfl rfl rfl ?_
  refine S_q (Ent.re [1,0] rfl) rfl (Q_nilCheck rfl) rfl rfl rfl ?_
  refine S_q (Ent.re [1,0] rfl) rfl (Q_fa0 rfl) rfl rfl rfl ?_
  refine S_q (Ent.re [1,0] rfl) rfl (Q_ld 0 rfl rfl rfl rfl) rfl rfl rfl ?_
  refine S_q (Ent.re [1,0] rfl) rfl (Q_ld 1 rfl rfl rfl rfl) rfl rfl rfl ?_
  refine S_o rfl rfl rfl rfl (O_call [4,5] [0,1,2,3,6,7,8,9] (tacked_ok E t st.room tr tm st.tm u hrl (by omega)) rfl rfl ?_)
  (rintro _ _ ⟨tm1, rfl, hrl1, rfl⟩; refine ⟨[], free_no (by kernel_rfl), ?_⟩)
  refine JS.norm ?_
  refine S_nil ?_
  refine seqQ_normal ?_
  refine J_seq ?_
  refine J_region ?_
  refine L_q (Q_move rfl) rfl rfl rfl ?_
  refine L_q (Q_move rfl) rfl rfl rfl ?_
  refine L_q (Q_nilCheck rfl) rfl rfl rfl ?_
  refine L_q (Q_fa0 rfl) rfl rfl rfl ?_
  refine L_q (Q_ld 3 rfl rfl rfl rfl) rfl rfl rfl ?_
  refine L_q (Q_makeFunc (xs := []) (ys := [.tmp 6]) (vs := []) (us := [.pointer (some ⟨b6, 0, none⟩)]) rfl rfl) rfl rfl rfl ?_
  refine L_o rfl rfl rfl (O_call [7,2] [0,1,3,4,5,6,8,9] (delf_ok E S st.op b6 u (by omega)) rfl rfl ?_)
  rintro _ _ ⟨S2, rfl, rfl⟩
  refine JL.norm ?_
  refine L_q (Q_nilCheck rfl) rfl rfl rfl ?_
  refine L_q (Q_fa0 rfl) rfl rfl rfl ?_
  refine L_s rfl rfl (O_st1 4 rfl rfl rfl rfl rfl ?_)
  refine JL.norm ?_
  refine JL_nil ?_
  refine seqQ_normal ?_
  refine J_seq ?_
  refine J_seq ?_
  by_cases hq : q < 0
  · rw [if_pos hq]
    refine J_region ?_
    refine L_q (Q_move rfl) rfl rfl rfl ?_
    refine L_q ((Q_lss rfl rfl).as (v' := .bool true) (congrArg Value.bool (decide_eq_true hq))) rfl rfl rfl ?_
    refine JL_nil ?_
    refine seqQ_normal ?_
    refine J_condT rfl ?_
    refine J_seq ?_
    refine J_region ?_
    refine L_q (Q_assign rfl) rfl rfl rfl ?_
    refine JL_nil ?_
    refine seqQ_normal ?_
    refine J_ret ?_
    refine seqQ_ret ?_
    exact retQ_ret _ [pipeA p (ackS st u)] (.cons (RV_tmp rfl) .nil) ⟨rfl, rfl⟩ ((Ent.re [4, 5, 6, 2, 3, 7, 0, 8, 9] rfl).trans (Ent.pipe (st := ackS st u) hb hrl1))
  rw [if_neg hq]
  have hmono := base_mono st.L q
  have hL1 := takeL_len1 st.L q
  have hb1 := baseOf_le (takeL 64 st.L q)
  have htold := h.told
  have hb0 := baseOf_le st.L
  have hwt := wtake_ok E w 64 (baseOf st.L) wr m st.L q hb rfl h.Ln (by omega) (by decide) (by omega)
  have hbS : bodyS (ackS st u) q tx = { ackS st u with L := takeL 64 st.L q, held := (tellN (st.told, held1 st q tx) (baseOf st.L) (baseOf (takeL 64 st.L q) - baseOf st.L)).2, told := (tellN (st.told, held1 st q tx) (baseOf st.L) (baseOf (takeL 64 st.L q) - baseOf st.L)).1, owe := true } := rfl
  have hh1 : held1 st q tx = if takeB 64 st.L q = true then mset st.held q tx else st.held := rfl
  refine J_region ?_
  refine L_q (Q_move rfl) rfl rfl rfl ?_
  refine L_q ((Q_lss rfl rfl).as (v' := .bool false) (congrArg Value.bool (decide_eq_false hq))) rfl rfl rfl ?_
  refine JL_nil ?_
  refine seqQ_normal ?_
  refine J_condF rfl ?_
  refine J_skip ?_
  refine seqQ_normal ?_
  refine J_seq ?_
  refine J_region ?_
  refine L_q (Q_move rfl) rfl rfl rfl ?_
  refine L_q (Q_nilCheck rfl) rfl rfl rfl ?_
  refine L_q (Q_fa0 rfl) rfl rfl rfl ?_
  refine L_s rfl rfl (O_st1 4 rfl rfl rfl rfl rfl ?_)
  refine JL.norm ?_
  refine JL_nil ?_
  refine seqQ_normal ?_
  refine J_seq ?_
  refine J_region ?_
  refine L_q (Q_move rfl) rfl rfl rfl ?_
  refine L_q (Q_nilCheck rfl) rfl rfl rfl ?_
  refine L_q (Q_fa0 rfl) rfl rfl rfl ?_
  refine L_q (Q_ld 4 rfl rfl rfl rfl) rfl rfl rfl ?_
  refine L_o rfl rfl rfl (O_call [5] [0,1,2,3,4,6,7,8,9] (wbase_ok E w 64 (baseOf st.L) wr) rfl rfl ?_)
  rintro _ _ ⟨rfl, rfl⟩
  refine JL.norm ?_
  refine L_q (Q_assign rfl) rfl rfl rfl ?_
  refine JL_nil ?_
  refine seqQ_normal ?_
  refine J_seq ?_
  refine J_seq ?_
  refine J.cut0 (fun e ρ' L' => e = .normal ∧ ∃ m2, Beyond (baseOf (takeL 64 st.L q)) m2 (takeL 64 st.L q) ∧ envSub [(0, .pointer (some ⟨p, 0, none⟩)), (9, .int .i64 (baseOf st.L : Int))] ρ' ∧ Ent L' [winC w 64 (baseOf (takeL 64 st.L q)) wr, mpC mB wr m2, slc tBd true S2 (ackO st.op u), timC t st.room tr, mpC mW tr tm1, pipeC p w t r S2 T st.room st.sent true, mpC mH r (held1 st q tx), slc tS true T st.told, F]) ?_ ?_
  · cases htb : takeB 64 st.L q with
    | true =>
      rw [htb] at hwt hh1
      rw [if_pos rfl] at hh1
      refine J_region ?_
      refine L_q (Q_move rfl) rfl rfl rfl ?_
      refine L_q (Q_nilCheck rfl) rfl rfl rfl ?_
      refine L_q (Q_fa0 rfl) rfl rfl rfl ?_
      refine L_q (Q_ld 5 rfl rfl rfl rfl) rfl rfl rfl ?_
      refine L_q (Q_move rfl) rfl rfl rfl ?_
      refine L_o rfl rfl rfl (O_call [0,6] [1,2,3,4,5,7,8,9] hwt rfl rfl ?_)
      rintro _ _ ⟨m2, rfl, hb2, rfl⟩
      refine JL.norm ?_
      refine JL_nil ?_
      refine seqQ_normal ?_
      refine J_condT rfl ?_
      refine J_region ?_
      refine L_q (Q_move rfl) rfl rfl rfl ?_
      refine L_q (Q_nilCheck rfl) rfl rfl rfl ?_
      refine L_q (Q_fa0 rfl) rfl rfl rfl ?_
      refine L_q (Q_ld 6 rfl rfl rfl rfl) rfl rfl rfl ?_
      refine L_q (Q_move rfl) rfl rfl rfl ?_
      refine L_q (Q_move rfl) rfl rfl rfl ?_
      refine L_s rfl rfl (O_mset (M := mH) 7 q tx rfl rfl rfl rfl ?_)
      refine JL.norm ?_
      refine JL_nil ?_
      exact ⟨rfl, m2, hb2, ⟨rfl, rfl, trivial⟩, by rw [hh1]; exact Ent.re [0, 1, 2, 4, 5, 6, 7, 8, 9] rfl⟩
    | false =>
      rw [htb] at hwt hh1
      rw [if_neg (by simp)] at hh1
      refine J_region ?_
      refine L_q (Q_move rfl) rfl rfl rfl ?_
      refine L_q (Q_nilCheck rfl) rfl rfl rfl ?_
      refine L_q (Q_fa0 rfl) rfl rfl rfl ?_
      refine L_q (Q_ld 5 rfl rfl rfl rfl) rfl rfl rfl ?_
      refine L_q (Q_move rfl) rfl rfl rfl ?_
      refine L_o rfl rfl rfl (O_call [0,6] [1,2,3,4,5,7,8,9] hwt rfl rfl ?_)
      rintro _ _ ⟨m2, rfl, hb2, rfl⟩
      refine JL.norm ?_
      refine JL_nil ?_
      refine seqQ_normal ?_
      refine J_condF rfl ?_
      refine J_skip ?_
      exact ⟨rfl, m2, hb2, ⟨rfl, rfl, trivial⟩, by rw [hh1]; exact Ent.re [0, 1, 2, 4, 5, 6, 7, 8, 9] rfl⟩
  rintro _ ρ' L' ⟨rfl, m2, hb2, hsub, hent⟩
  refine seqQ_normal ?_
  refine J.sub hsub ?_
  refine J.ent hent ?_
  rw [hbS]
  clear hh1 hbS hwt
  generalize held1 st q tx = h1 at *
  have hlen := tellN_len (st.told, h1) (baseOf st.L)
  dsimp only at hlen
  refine J_seq ?_
  refine J_seq ?_
  refine J_region ?_
  refine L_q (Q_move rfl) rfl rfl rfl ?_
  refine L_q (Q_assign rfl) rfl rfl rfl ?_
  refine JL_nil ?_
  refine seqQ_normal ?_
  refine J_block ?_
  refine J_loop (fun i : Nat × SV => i.1 ≤ baseOf (takeL 64 st.L q) - baseOf st.L)
    (fun i => [(0, .pointer (some ⟨p, 0, none⟩)), (10, .int .i64 ((baseOf st.L + i.1 : Nat) : Int))])
    (fun i => [winC w 64 (baseOf (takeL 64 st.L q)) wr, mpC mB wr m2, slc tBd true S2 (ackO st.op u), timC t st.room tr, mpC mW tr tm1, pipeC p w t r S2 i.2 st.room st.sent true, mpC mH r (tellN (st.told, h1) (baseOf st.L) i.1).2, slc tS true i.2 (tellN (st.told, h1) (baseOf st.L) i.1).1, F]) (fun i => baseOf (takeL 64 st.L q) - baseOf st.L - i.1) (0, T) (Nat.zero_le _) ⟨rfl, rfl, trivial⟩ (Ent.refl _) ?_
  rintro ⟨n, T1⟩ hn
  dsimp only at hn ⊢
  have hln := hlen n
  have hs1 : (tellN (st.told, h1) (baseOf st.L) (n + 1)).1 = (tellN (st.told, h1) (baseOf st.L) n).1 ++ [hv (tellN (st.told, h1) (baseOf st.L) n).2 ((baseOf st.L + n : Nat) : Int)] := rfl
  have hs2 : (tellN (st.told, h1) (baseOf st.L) (n + 1)).2 = mdel (tellN (st.told, h1) (baseOf st.L) n).2 ((baseOf st.L + n : Nat) : Int) := rfl
  refine J_seq ?_
  refine J_seq ?_
  refine J_region ?_
  refine L_q (Q_move rfl) rfl rfl rfl ?_
  refine L_q (Q_move rfl) rfl rfl rfl ?_
  refine L_q (Q_nilCheck rfl) rfl rfl rfl ?_
  refine L_q (Q_fa0 rfl) rfl rfl rfl ?_
  refine L_q (Q_ld 5 rfl rfl rfl rfl) rfl rfl rfl ?_
  refine L_o rfl rfl rfl (O_call [0] [1,2,3,4,5,6,7,8] (wbase_ok E w 64 (baseOf (takeL 64 st.L q)) wr) rfl rfl ?_)
  rintro _ _ ⟨rfl, rfl⟩
  refine JL.norm ?_
  refine L_q (Q_lss rfl rfl) rfl rfl rfl ?_
  refine JL_nil ?_
  refine seqQ_normal ?_
  refine J_condD rfl (fun h2 => ?_) (fun h2 => ?_)
  · have hlt : n < baseOf (takeL 64 st.L q) - baseOf st.L := by omega
    generalize (tellN (st.told, h1) (baseOf st.L) n).1 = told1 at *
    generalize (tellN (st.told, h1) (baseOf st.L) n).2 = held2 at *
    generalize hx : hv held2 ((baseOf st.L + n : Nat) : Int) = x at *
    refine J_skip ?_
    refine seqQ_normal ?_
    refine J_seq ?_
    refine J_block ?_
    refine J_seq ?_
    refine J_drawH [5,6] [0, 1, 2, 3, 4, 5, 6, 7, 8, 9, 10, 13, 14] (.quiet 0 (.quiet 1 (.quiet 2 (.quiet 3 (.quiet 4 (.quiet 5 (.quiet 6 (.quiet 7 (.quiet 8 (.quiet 9 (.quiet 10 (.loud 11 (.loud 12 (.quiet 13 (.quiet 14 (.loud 15 .done)))))))))))))))) Try.mixed (by kernel_rfl) (by kernel_rfl) (by repeat (first | exact retQ_noP | refine seqQ_noP ?_ | refine blockQ_noP ?_ | refine loopQ_noP ?_ | refine scopeQ_noP ?_ | (intro _ _ _ h; cases h.1))) ?_
    refine S_q (Ent.re [5,6] rfl) rfl (Q_move rfl) rfl rfl rfl ?_
    refine S_q (Ent.re [5,6] rfl) rfl (Q_move rfl) rfl rfl rfl ?_
    refine S_q (Ent.re [5,6] rfl) rfl (Q_nilCheck rfl) rfl rfl rfl ?_
    refine S_q (Ent.re [5,6] rfl) rfl (Q_fa0 rfl) rfl rfl rfl ?_
    refine S_q (Ent.re [5,6] rfl) rfl (Q_ld 0 rfl rfl rfl rfl) rfl rfl rfl ?_
    refine S_q (Ent.re [5,6] rfl) rfl (Q_move rfl) rfl rfl rfl ?_
    refine S_q (Ent.re [5,6] rfl) rfl (Q_nilCheck rfl) rfl rfl rfl ?_
    refine S_q (Ent.re [5,6] rfl) rfl (Q_fa0 rfl) rfl rfl rfl ?_
    refine S_q (Ent.re [5,6] rfl) rfl (Q_ld 0 rfl rfl rfl rfl) rfl rfl rfl ?_
    refine S_q (Ent.re [5,6] rfl) rfl (Q_move rfl) rfl rfl rfl ?_
    refine S_q (Ent.re [5,6] rfl) rfl ((Q_mget (M := mH) 1 ((baseOf st.L + n : Nat) : Int) rfl rfl rfl).as (v' := str x) (by rw [hv_val, hx])) rfl rfl rfl ?_
    refine S_o rfl rfl rfl rfl (O_litP (τ := tS) (m := 1) (sz := 1) [x] rfl rfl rfl rfl rfl rfl (by decide) (fun U => ⟨_, fun _ => ⟨Ent.reN [6,7] rfl, Ent.refl _⟩, ?_⟩))
    refine JS.norm ?_
    refine S_o rfl rfl rfl rfl (O_app (τ := tS) 8 rfl (fun w h => h.rd 0 rfl) rfl rfl rfl rfl (by simp only [List.length_singleton]; omega) (by decide) (fun T2 => ⟨_, fun _ => ⟨Ent.reN [6,7] rfl, Ent.refl _⟩, ?_⟩))
    refine JS.norm ?_
    refine S_q (Ent.re [6,7] rfl) rfl (Q_nilCheck rfl) rfl rfl rfl ?_
    refine S_q (Ent.re [6,7] rfl) rfl (Q_fa0 rfl) rfl rfl rfl ?_
    refine S_s rfl rfl rfl (O_st1 6 rfl rfl rfl rfl rfl ⟨[], free_no (by kernel_rfl), ?_⟩)
    refine JS.norm ?_
    refine S_nil ?_
    refine seqQ_normal ?_
    refine J_region ?_
    refine L_q (Q_move rfl) rfl rfl rfl ?_
    refine L_q (Q_nilCheck rfl) rfl rfl rfl ?_
    refine L_q (Q_fa0 rfl) rfl rfl rfl ?_
    refine L_q (Q_ld 6 rfl rfl rfl rfl) rfl rfl rfl ?_
    refine L_q (Q_move rfl) rfl rfl rfl ?_
    refine L_s rfl rfl (O_mdel (M := mH) 7 ((baseOf st.L + n : Nat) : Int) rfl rfl rfl ?_)
    refine JL.norm ?_
    refine JL_nil ?_
    refine blockQ_normal ?_
    refine seqQ_normal ?_
    refine J_region ?_
    refine L_q (Q_move rfl) rfl rfl rfl ?_
    refine L_q (Q_add rfl rfl (by first | exact IntWalk.i64_in _ (by omega) | exact IntWalk.u8_in _ (by omega) | exact IntWalk.u32_in _ (by omega) | exact IntWalk.u64_in _ (by omega) | rfl)) rfl rfl rfl ?_
    refine L_q (Q_assign rfl) rfl rfl rfl ?_
    refine JL_nil ?_
    exact loopQ_normal (n + 1, T2) hlt (by simp only; omega) ⟨rfl, rfl, trivial⟩ (by simp only [hs1, hs2]; exact Ent.re [1, 2, 3, 4, 5, 6, 7, 8, 9] rfl)
  · obtain rfl : n = baseOf (takeL 64 st.L q) - baseOf st.L := by omega
    refine J_exit ?_
    refine seqQ_exit ?_
    refine loopQ_exit ?_
    refine blockQ_hit ?_
    refine seqQ_normal ?_
    refine J_seq ?_
    refine J_region ?_
    refine L_q (Q_assign rfl) rfl rfl rfl ?_
    refine JL_nil ?_
    refine seqQ_normal ?_
    refine J_ret ?_
    exact retQ_ret _ [pipeA p _] (.cons (RV_tmp rfl) .nil) ⟨rfl, rfl⟩ ((Ent.re [5, 0, 1, 3, 4, 6, 2, 7, 8] rfl).trans (Ent.pipe (st := { ackS st u with L := takeL 64 st.L q, held := _, told := _, owe := true }) hb2 hrl1))
end Go.Proofs
