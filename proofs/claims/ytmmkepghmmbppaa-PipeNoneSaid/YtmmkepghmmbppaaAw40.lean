/- Chapter 40's example; an end that is none; frames read back. -/
import Derived.Test.YtmmkepghmmbppaaPip5
set_option autoImplicit false
namespace Go.Proofs
open Go.SL
theorem nextT_four (a r : By) (h : a.length < 4294967296) : nextT (four a.length ++ a ++ r) = some (a, r) := by
  have hb : be (four a.length) = a.length := by rw [be_four4, Nat.mod_eq_of_lt (by omega)]
  have h1 : (four a.length ++ a ++ r).take 4 = four a.length := rfl
  have h2 : (four a.length ++ a ++ r).drop 4 = a ++ r := rfl
  unfold nextT
  rw [h1, h2, hb, if_neg (by simp [four]), if_neg (by simp)]
  simp
theorem readT_texts : ∀ l : List By, (∀ x ∈ l, x.length < 4294967296) → readT (texts l) = some l
  | [], _ => readT_nil
  | a :: l, h => by
    have e : texts (a :: l) = four a.length ++ a ++ texts l := rfl
    have hn := nextT_four a (texts l) (h a (by simp))
    rw [← e] at hn
    rw [readT_some (by rw [e]; simp [four]) hn, readT_texts l fun x hx => h x (by simp [hx])]
    rfl
theorem readP_frm (base : Nat) (sq s : By) (h : 16 + sq.length + s.length ≤ 4096) : readP (frm base sq s) = partsP [sq, four base, s] := by
  have hl : (texts [sq, four base, s]).length ≤ 4096 := by rw [texts3_len]; simp [four]; omega
  have h1 := recNext_frame (texts [sq, four base, s]) [] hl
  rw [List.append_nil] at h1
  have h2 := readT_texts [sq, four base, s] (fun x hx => by
    simp only [List.mem_cons, List.not_mem_nil, or_false] at hx
    rcases hx with rfl | rfl | rfl
    · omega
    · simp [four]
    · omega)
  have h3 : readE (texts [sq, four base, s]) = 0 := by unfold readE; rw [h2]; rfl
  have h4 : readL (texts [sq, four base, s]) = [sq, four base, s] := by unfold readL; rw [h2]; rfl
  have h5 : (frm base sq s).length = 8 + (texts [sq, four base, s]).length := frame_len _
  unfold readP
  rw [h5, show recNext (frm base sq s) = _ from h1]
  dsimp only
  rw [if_neg (by simp), if_neg (by rw [h3]; simp), h4]
theorem num_four (n : Nat) (h : n < 4294967296) : num (four n) = (n : Int) := by
  unfold num
  rw [if_pos (show (four n).length = 4 from rfl), be_four4, Nat.mod_eq_of_lt (by omega)]
theorem readP_body (base q : Nat) (s : By) (hq : q < 4294967296) (hb : base < 4294967296) (h : s.length ≤ 4076) : readP (frm base (four q) s) = ((q : Int), (base : Int), s, 0) := by
  rw [readP_frm base (four q) s (by simp [four]; omega)]
  have : partsP [four q, four base, s] = if num (four base) < 0 ∨ (num (four q) < 0 ∧ four q ++ s ≠ []) then (0, 0, [], 3) else (num (four q), num (four base), s, 0) := rfl
  rw [this, num_four q hq, num_four base hb, if_neg (by omega)]
theorem readP_ack (base : Nat) (hb : base < 4294967296) : readP (frm base [] []) = (-1, (base : Int), [], 0) := by
  rw [readP_frm base [] [] (by simp)]
  have : partsP [[], four base, []] = if num (four base) < 0 ∨ (num [] < 0 ∧ ([] : By) ++ [] ≠ []) then (0, 0, [], 3) else (num [], num (four base), [], 0) := rfl
  rw [this, num_four base hb, if_neg (by rintro (h1 | h1); omega; exact h1.2 rfl)]
  rfl
theorem take_body {st : Ps} {s t : By} {q u : Nat} (h : readP s = ((q : Int), (u : Int), t, 0)) : takeE s = 0 ∧ takeS st s = bodyS (ackS st u) q t := by
  unfold takeE takeS
  rw [h]
  exact ⟨rfl, by rw [if_neg (by simp), if_neg (by simp)]⟩
theorem take_ack {st : Ps} {s : By} {u : Nat} (h : readP s = (-1, (u : Int), [], 0)) : takeE s = 0 ∧ takeS st s = ackS st u := by
  unfold takeE takeS
  rw [h]
  exact ⟨rfl, by rw [if_neg (by simp), if_pos (by simp)]⟩
theorem _root_.Go.SL.Rd.begin {α : Type} {τ : Ty α} {w : World} {S : SV} {l : List α} (h : Rd τ w S l) (k : Nat) (hk : k ≤ l.length) : Rd τ w (S.sub τ.sz 0 k) (l.take k) := by
  have := h.sub 0 k (Nat.zero_le _) hk
  rwa [List.drop_zero] at this
def xA1 := sendS (new 2) [120]
def xA2 := sendS xA1 [121]
def xA3 := pollS xA2 0
def xA4 := ackS xA3 2
def xB1 := bodyS (ackS (new 2) 0) 1 [121]
def xB2 := bodyS (ackS xB1 0) 0 [120]
def xB3 := bodyS (ackS xB2 0) 0 [120]
def xB4 := pollS xB3 1
attribute [local irreducible] J JL QOp JOp seqQ blockQ loopQ retQ slc cel hex star pur stars Does RV Ent pAt scopeQ
attribute [local irreducible] mpC pipeA
theorem rtexts_gen (E : World) (C1 C2 : HProp) (S S' : SV) (l m : List By) (h1 : ∀ w L, Sat E w (C1 :: C2 :: L) → Rd tS w S l) (h2 : ∀ w L, Sat E w (C1 :: C2 :: L) → Rd tS w S' m) (hl : l.length ≤ 100000000) : Does Try.prog E 13 [S.v, S'.v] [C1, C2] fun v L => v = .bool (decide (l = m)) ∧ L = [C1, C2] := by
  refine Does.of Try.func13 rfl Try.ntmps13 rfl rfl fun F => ?_
  refine J.norm ?_
  refine J_seq ?_
  refine J_region ?_
  refine L_q (Q_assign rfl) rfl rfl rfl ?_
  refine JL_nil ?_
  refine seqQ_normal ?_
  refine J_seq ?_
  refine J_seq ?_
  refine J_region ?_
  refine L_q (Q_move rfl) rfl rfl rfl ?_
  refine L_q (Q_len (fun w h => h1 w _ h) rfl) rfl rfl rfl ?_
  refine L_q (Q_move rfl) rfl rfl rfl ?_
  refine L_q (Q_len (fun w h => h2 w _ h) rfl) rfl rfl rfl ?_
  refine L_q (Q_neq rfl rfl) rfl rfl rfl ?_
  refine JL_nil ?_
  refine seqQ_normal ?_
  refine J_condD rfl (fun h => ?_) (fun h => ?_)
  · have e : decide (l = m) = false := decide_eq_false (by rintro rfl; exact h rfl)
    rw [e]
    refine J_seq ?_
    refine J_region ?_
    refine L_q (Q_assign rfl) rfl rfl rfl ?_
    refine JL_nil ?_
    refine seqQ_normal ?_
    refine J_ret ?_
    refine seqQ_ret ?_
    exact retQ_ret _ [C1, C2] (.cons (RV_tmp rfl) .nil) ⟨rfl, rfl⟩ (Ent.refl _)
  have hlm : l.length = m.length := by omega
  refine J_skip ?_
  refine seqQ_normal ?_
  refine J_seq ?_
  refine J_seq ?_
  refine J_region ?_
  refine L_q (Q_assign rfl) rfl rfl rfl ?_
  refine JL_nil ?_
  refine seqQ_normal ?_
  refine J_block ?_
  refine J_loop (fun i : Nat => i ≤ l.length ∧ l.take i = m.take i) (fun i => [(0, S.v), (1, S'.v), (5, .int .i64 (i : Int))])
    (fun _ => [C1, C2, F]) (fun i => l.length - i) 0 ⟨by omega, rfl⟩ ⟨rfl, rfl, rfl, trivial⟩ (Ent.refl _) ?_
  rintro k ⟨hk, he⟩
  refine J_seq ?_
  refine J_seq ?_
  refine J_region ?_
  refine L_q (Q_move rfl) rfl rfl rfl ?_
  refine L_q (Q_move rfl) rfl rfl rfl ?_
  refine L_q (Q_len (fun w h => h1 w _ h) rfl) rfl rfl rfl ?_
  refine L_q (Q_lss rfl rfl) rfl rfl rfl ?_
  refine JL_nil ?_
  refine seqQ_normal ?_
  refine J_condD rfl (fun h3 => ?_) (fun h3 => ?_)
  · have hl1 : k < l.length := by omega
    have hm1 : k < m.length := by omega
    by_cases hd : l[k] = m[k]
    · refine J_skip ?_
      refine seqQ_normal ?_
      refine J_seq ?_
      refine J_block ?_
      refine J_seq ?_
      refine J_drawH [0,1] [0, 1, 2, 3, 4, 5, 6, 7, 8] (.quiet 0 (.quiet 1 (.quiet 2 (.quiet 3 (.quiet 4 (.quiet 5 (.quiet 6 (.quiet 7 (.quiet 8 .done))))))))) Try.mixed (by kernel_rfl) (by kernel_rfl) (by repeat (first | exact retQ_noP | refine seqQ_noP ?_ | refine blockQ_noP ?_ | refine loopQ_noP ?_ | refine scopeQ_noP ?_ | (intro _ _ _ h; cases h.1))) ?_
      refine S_q (Ent.re [0,1] rfl) rfl (Q_move rfl) rfl rfl rfl ?_
      refine S_q (Ent.re [0,1] rfl) rfl (Q_move rfl) rfl rfl rfl ?_
      refine S_q (Ent.re [0,1] rfl) rfl (Q_ix k (fun w h => h1 w _ h) rfl rfl rfl hl1 rfl) rfl rfl rfl ?_
      refine S_q (Ent.re [0,1] rfl) rfl (Q_ldE k 0 (v := str l[k]) (fun w h => h1 w _ h) rfl rfl rfl hl1 (by decide) rfl) rfl rfl rfl ?_
      refine S_q (Ent.re [0,1] rfl) rfl (Q_move rfl) rfl rfl rfl ?_
      refine S_q (Ent.re [0,1] rfl) rfl (Q_move rfl) rfl rfl rfl ?_
      refine S_q (Ent.re [0,1] rfl) rfl (Q_ix k (fun w h => h2 w _ h) rfl rfl rfl hm1 rfl) rfl rfl rfl ?_
      refine S_q (Ent.re [0,1] rfl) rfl (Q_ldE k 0 (v := str m[k]) (fun w h => h2 w _ h) rfl rfl rfl hm1 (by decide) rfl) rfl rfl rfl ?_
      refine S_q (Ent.re [0,1] rfl) rfl ((Q_sneq rfl rfl).as (v' := .bool false) (congrArg Value.bool (decide_eq_false (by simp [hd])))) rfl rfl rfl ?_
      refine S_nil ?_
      refine seqQ_normal ?_
      refine J_condF rfl ?_
      refine J_skip ?_
      refine blockQ_normal ?_
      refine seqQ_normal ?_
      refine J_region ?_
      refine L_q (Q_move rfl) rfl rfl rfl ?_
      refine L_q (Q_add rfl rfl (by first | exact IntWalk.i64_in _ (by omega) | exact IntWalk.u8_in _ (by omega) | exact IntWalk.u32_in _ (by omega) | exact IntWalk.u64_in _ (by omega) | rfl)) rfl rfl rfl ?_
      refine L_q (Q_assign rfl) rfl rfl rfl ?_
      refine JL_nil ?_
      refine loopQ_normal (k + 1) ⟨by omega, ?_⟩ (by omega) ⟨rfl, rfl, rfl, trivial⟩ (Ent.refl _)
      rw [List.take_succ_eq_append_getElem hl1, List.take_succ_eq_append_getElem hm1, he, hd]
    · have e : decide (l = m) = false := decide_eq_false (by rintro rfl; exact hd rfl)
      rw [e]
      refine J_skip ?_
      refine seqQ_normal ?_
      refine J_seq ?_
      refine J_block ?_
      refine J_seq ?_
      refine J_drawH [0,1] [0, 1, 2, 3, 4, 5, 6, 7, 8] (.quiet 0 (.quiet 1 (.quiet 2 (.quiet 3 (.quiet 4 (.quiet 5 (.quiet 6 (.quiet 7 (.quiet 8 .done))))))))) Try.mixed (by kernel_rfl) (by kernel_rfl) (by repeat (first | exact retQ_noP | refine seqQ_noP ?_ | refine blockQ_noP ?_ | refine loopQ_noP ?_ | refine scopeQ_noP ?_ | (intro _ _ _ h; cases h.1))) ?_
      refine S_q (Ent.re [0,1] rfl) rfl (Q_move rfl) rfl rfl rfl ?_
      refine S_q (Ent.re [0,1] rfl) rfl (Q_move rfl) rfl rfl rfl ?_
      refine S_q (Ent.re [0,1] rfl) rfl (Q_ix k (fun w h => h1 w _ h) rfl rfl rfl hl1 rfl) rfl rfl rfl ?_
      refine S_q (Ent.re [0,1] rfl) rfl (Q_ldE k 0 (v := str l[k]) (fun w h => h1 w _ h) rfl rfl rfl hl1 (by decide) rfl) rfl rfl rfl ?_
      refine S_q (Ent.re [0,1] rfl) rfl (Q_move rfl) rfl rfl rfl ?_
      refine S_q (Ent.re [0,1] rfl) rfl (Q_move rfl) rfl rfl rfl ?_
      refine S_q (Ent.re [0,1] rfl) rfl (Q_ix k (fun w h => h2 w _ h) rfl rfl rfl hm1 rfl) rfl rfl rfl ?_
      refine S_q (Ent.re [0,1] rfl) rfl (Q_ldE k 0 (v := str m[k]) (fun w h => h2 w _ h) rfl rfl rfl hm1 (by decide) rfl) rfl rfl rfl ?_
      refine S_q (Ent.re [0,1] rfl) rfl ((Q_sneq rfl rfl).as (v' := .bool true) (congrArg Value.bool (decide_eq_true hd))) rfl rfl rfl ?_
      refine S_nil ?_
      refine seqQ_normal ?_
      refine J_condT rfl ?_
      refine J_seq ?_
      refine J_region ?_
      refine L_q (Q_assign rfl) rfl rfl rfl ?_
      refine JL_nil ?_
      refine seqQ_normal ?_
      refine J_ret ?_
      refine blockQ_ret ?_
      refine seqQ_ret ?_
      refine loopQ_ret ?_
      refine blockQ_ret ?_
      refine seqQ_ret ?_
      exact retQ_ret _ [C1, C2] (.cons (RV_tmp rfl) .nil) ⟨rfl, rfl⟩ (Ent.refl _)
  · obtain rfl : k = l.length := by omega
    rw [List.take_length, hlm, List.take_length] at he
    rw [decide_eq_true he]
    refine J_exit ?_
    refine seqQ_exit ?_
    refine loopQ_exit ?_
    refine blockQ_hit ?_
    refine seqQ_normal ?_
    refine J_seq ?_
    refine J_region ?_
    refine L_q (Q_assign rfl) rfl rfl rfl ?_
    refine JL_nil ?_
    refine seqQ_normal ?_
    refine J_ret ?_
    exact retQ_ret _ [C1, C2] (.cons (RV_tmp rfl) .nil) ⟨rfl, rfl⟩ (Ent.refl _)
theorem psend_nil (E : World) (s : By) : Does Try.prog E 9 [.pointer none, str s] [] fun v L => v = .int .i64 1 ∧ L = [] := by
  refine Does.of Try.func9 rfl Try.ntmps9 rfl rfl fun F => ?_
  refine J.norm ?_
  refine J_seq ?_
  refine J_region ?_
  refine L_q (Q_assign rfl) rfl rfl rfl ?_
  refine JL_nil ?_
  refine seqQ_normal ?_
  refine J_seq ?_
  refine J_block ?_
  refine J_seq ?_
  refine J_region ?_
  refine L_q (Q_move rfl) rfl rfl rfl ?_
  refine L_q ((Q_peql rfl rfl).as (v' := .bool true) rfl) rfl rfl rfl ?_
  refine L_q (Q_assign rfl) rfl rfl rfl ?_
  refine JL_nil ?_
  refine seqQ_normal ?_
  refine J_condT rfl ?_
  refine J_seq ?_
  refine J_region ?_
  refine L_q (Q_assign rfl) rfl rfl rfl ?_
  refine JL_nil ?_
  refine seqQ_normal ?_
  refine J_ret ?_
  refine blockQ_ret ?_
  refine seqQ_ret ?_
  exact retQ_ret _ [] (.cons (RV_tmp rfl) .nil) ⟨rfl, rfl⟩ (Ent.refl _)
theorem ptake_nil (E : World) (s : By) : Does Try.prog E 11 [.pointer none, str s] [] fun v L => v = .int .i64 1 ∧ L = [] := by
  refine Does.of Try.func11 rfl Try.ntmps11 rfl rfl fun F => ?_
  refine J.norm ?_
  refine J_seq ?_
  refine J_region ?_
  refine L_q (Q_assign rfl) rfl rfl rfl ?_
  refine JL_nil ?_
  refine seqQ_normal ?_
  refine J_seq ?_
  refine J_seq ?_
  refine J_region ?_
  refine L_q (Q_move rfl) rfl rfl rfl ?_
  refine L_q ((Q_peql rfl rfl).as (v' := .bool true) rfl) rfl rfl rfl ?_
  refine JL_nil ?_
  refine seqQ_normal ?_
  refine J_condT rfl ?_
  refine J_seq ?_
  refine J_region ?_
  refine L_q (Q_assign rfl) rfl rfl rfl ?_
  refine JL_nil ?_
  refine seqQ_normal ?_
  refine J_ret ?_
  refine seqQ_ret ?_
  exact retQ_ret _ [] (.cons (RV_tmp rfl) .nil) ⟨rfl, rfl⟩ (Ent.refl _)
theorem ppoll_nil (E : World) (n : Int) : Does Try.prog E 10 [.pointer none, .int .i64 n] [] fun v L => v = SV.nil.v ∧ L = [] := by
  refine Does.of Try.func10 rfl Try.ntmps10 rfl rfl fun F => ?_
  refine J.norm ?_
  refine J_seq ?_
  refine J_region ?_
  refine L_q (Q_assign rfl) rfl rfl rfl ?_
  refine JL_nil ?_
  refine seqQ_normal ?_
  refine J_seq ?_
  refine J_seq ?_
  refine J_region ?_
  refine L_q (Q_move rfl) rfl rfl rfl ?_
  refine L_q ((Q_peql rfl rfl).as (v' := .bool true) rfl) rfl rfl rfl ?_
  refine L_q (Q_move rfl) rfl rfl rfl ?_
  refine L_n rfl rfl rfl ?_
  refine L_n rfl rfl rfl ?_
  refine L_q (Q_pickT rfl rfl) rfl rfl rfl ?_
  refine L_q (Q_move rfl) rfl rfl rfl ?_
  refine L_n rfl rfl rfl ?_
  refine L_n rfl rfl rfl ?_
  refine L_q (Q_pickT rfl rfl) rfl rfl rfl ?_
  refine JL_nil ?_
  refine seqQ_normal ?_
  refine J_condT rfl ?_
  refine J_seq ?_
  refine J_region ?_
  refine L_q (Q_assign rfl) rfl rfl rfl ?_
  refine JL_nil ?_
  refine seqQ_normal ?_
  refine J_ret ?_
  refine seqQ_ret ?_
  exact retQ_ret _ [] (.cons (RV_tmp rfl) .nil) ⟨rfl, rfl⟩ (Ent.refl _)
theorem ptold_nil (E : World) : Does Try.prog E 12 [.pointer none] [] fun v L => v = SV.nil.v ∧ L = [] := by
  refine Does.of Try.func12 rfl Try.ntmps12 rfl rfl fun F => ?_
  refine J.norm ?_
  refine J_seq ?_
  refine J_region ?_
  refine L_q (Q_assign rfl) rfl rfl rfl ?_
  refine JL_nil ?_
  refine seqQ_normal ?_
  refine J_seq ?_
  refine J_seq ?_
  refine J_region ?_
  refine L_q (Q_move rfl) rfl rfl rfl ?_
  refine L_q ((Q_peql rfl rfl).as (v' := .bool true) rfl) rfl rfl rfl ?_
  refine JL_nil ?_
  refine seqQ_normal ?_
  refine J_condT rfl ?_
  refine J_seq ?_
  refine J_region ?_
  refine L_q (Q_assign rfl) rfl rfl rfl ?_
  refine JL_nil ?_
  refine seqQ_normal ?_
  refine J_ret ?_
  refine seqQ_ret ?_
  exact retQ_ret _ [] (.cons (RV_tmp rfl) .nil) ⟨rfl, rfl⟩ (Ent.refl _)
theorem popen_nil (E : World) : Does Try.prog E 14 [.pointer none] [] fun v L => v = .int .i64 0 ∧ L = [] := by
  refine Does.of Try.func14 rfl Try.ntmps14 rfl rfl fun F => ?_
  refine J.norm ?_
  refine J_seq ?_
  refine J_region ?_
  refine L_q (Q_assign rfl) rfl rfl rfl ?_
  refine JL_nil ?_
  refine seqQ_normal ?_
  refine J_seq ?_
  refine J_seq ?_
  refine J_region ?_
  refine L_q (Q_move rfl) rfl rfl rfl ?_
  refine L_q ((Q_peql rfl rfl).as (v' := .bool true) rfl) rfl rfl rfl ?_
  refine JL_nil ?_
  refine seqQ_normal ?_
  refine J_condT rfl ?_
  refine J_seq ?_
  refine J_region ?_
  refine L_q (Q_assign rfl) rfl rfl rfl ?_
  refine JL_nil ?_
  refine seqQ_normal ?_
  refine J_ret ?_
  refine seqQ_ret ?_
  exact retQ_ret _ [] (.cons (RV_tmp rfl) .nil) ⟨rfl, rfl⟩ (Ent.refl _)
theorem pnext_nil (E : World) : Does Try.prog E 15 [.pointer none] [] fun v L => v = .int .i64 0 ∧ L = [] := by
  refine Does.of Try.func15 rfl Try.ntmps15 rfl rfl fun F => ?_
  refine J.norm ?_
  refine J_seq ?_
  refine J_region ?_
  refine L_q (Q_assign rfl) rfl rfl rfl ?_
  refine JL_nil ?_
  refine seqQ_normal ?_
  refine J_seq ?_
  refine J_seq ?_
  refine J_region ?_
  refine L_q (Q_move rfl) rfl rfl rfl ?_
  refine L_q ((Q_peql rfl rfl).as (v' := .bool true) rfl) rfl rfl rfl ?_
  refine JL_nil ?_
  refine seqQ_normal ?_
  refine J_condT rfl ?_
  refine J_seq ?_
  refine J_region ?_
  refine L_q (Q_assign rfl) rfl rfl rfl ?_
  refine JL_nil ?_
  refine seqQ_normal ?_
  refine J_ret ?_
  refine seqQ_ret ?_
  exact retQ_ret _ [] (.cons (RV_tmp rfl) .nil) ⟨rfl, rfl⟩ (Ent.refl _)
theorem awake_ok (E : World) : Does Try.prog E 7 [] [] fun v L => v = .bool true ∧ L = [] := by
  have w2 : winSize 2 = 2 := by decide
  have hn := ppnew_ok E 2
  rw [w2] at hn
  have v0 : PV (new 2) 0 := PV.new 2 (by decide) (by decide)
  have v1 : PV xA1 1 := v0.send _
  have v2 : PV xA2 2 := v1.send _
  have v3 : PV xA3 2 := v2.poll 0
  have v4 : PV xA4 2 := v3.ack 2
  have u1 : PV xB1 1 := (v0.ack 0).body _ _
  have u2 : PV xB2 2 := (u1.ack 0).body _ _
  have u3 : PV xB3 3 := (u2.ack 0).body _ _
  have u4 : PV xB4 3 := u3.poll 1
  have s1 := fun p => psend_ok E p (new 2) 0 [120] v0 (by decide)
  rw [show sendE (new 2) [120] = 0 by decide, show sendS (new 2) [120] = xA1 from rfl] at s1
  have s2 := fun p => psend_ok E p xA1 1 [121] v1 (by decide)
  rw [show sendE xA1 [121] = 0 by decide, show sendS xA1 [121] = xA2 from rfl] at s2
  have s3 := fun p => psend_ok E p xA2 2 [122] v2 (by decide)
  have e3 : sendE xA2 [122] = 7 := by decide
  rw [e3, show sendS xA2 [122] = xA2 by unfold sendS; rw [e3]; rfl] at s3
  have p1 := fun p => ppoll_ok E p xA2 2 0 v2 (by decide) (by decide)
  rw [show pollO xA2 0 = [frm 0 (four 0) [120], frm 0 (four 1) [121]] from rfl, show pollS xA2 0 = xA3 from rfl] at p1
  have l1 : ∀ a b, (frm a b [120]).length ≤ 100000 ∨ True := fun _ _ => .inr trivial
  have rb := fun q s (hq : q < 4294967296) (hs : s.length ≤ 4076) => readP_body 0 q s hq (by decide) hs
  have flen : ∀ (b : Nat) (q s : By), 16 + q.length + s.length ≤ 4096 → (frm b q s).length ≤ 100000 := fun b q s h => by
    have := texts3_len q (four b) s
    have h2 : (frm b q s).length = 8 + (texts [q, four b, s]).length := frame_len _
    have h3 : (four b).length = 4 := rfl
    omega
  have t1 := fun p => ptake_ok E p (new 2) 0 (frm 0 (four 1) [121]) v0 (by decide) (flen _ _ _ (by decide))
  obtain ⟨a1, a2⟩ := take_body (st := new 2) (rb 1 [121] (by decide) (by decide))
  rw [a1, a2, show bodyS (ackS (new 2) ((0 : Nat) : Int)) ((1 : Nat) : Int) [121] = xB1 from rfl] at t1
  have t2 := fun p => ptake_ok E p xB1 1 (frm 0 (four 0) [120]) u1 (by decide) (flen _ _ _ (by decide))
  obtain ⟨a3, a4⟩ := take_body (st := xB1) (rb 0 [120] (by decide) (by decide))
  rw [a3, a4, show bodyS (ackS xB1 ((0 : Nat) : Int)) ((0 : Nat) : Int) [120] = xB2 from rfl] at t2
  have t3 := fun p => ptake_ok E p xB2 2 (frm 0 (four 0) [120]) u2 (by decide) (flen _ _ _ (by decide))
  obtain ⟨a5, a6⟩ := take_body (st := xB2) (rb 0 [120] (by decide) (by decide))
  rw [a5, a6, show bodyS (ackS xB2 ((0 : Nat) : Int)) ((0 : Nat) : Int) [120] = xB3 from rfl] at t3
  have o1 := fun p => ptold_ok E p xB1 1 u1 (by decide)
  rw [show xB1.told = [] by decide] at o1
  have p2 := fun p => ppoll_ok E p xB3 3 1 u3 (by decide) (by decide)
  have b2 : baseOf xB3.L = 2 := by decide
  rw [show pollO xB3 1 = [frm 2 [] []] from rfl, show pollS xB3 1 = xB4 from rfl] at p2
  have t4 := fun p => ptake_ok E p xA3 2 (frm 2 [] []) v3 (by decide) (flen _ _ _ (by decide))
  obtain ⟨a7, a8⟩ := take_ack (st := xA3) (readP_ack 2 (by decide))
  rw [a7, a8, show ackS xA3 ((2 : Nat) : Int) = xA4 from rfl] at t4
  have o2 := fun p => ptold_ok E p xB4 3 u4 (by decide)
  rw [show xB4.told = [[120], [121]] by decide] at o2
  have q1 := fun p => popen_ok E p xA4
  rw [show xA4.op.length = 0 by decide] at q1
  have q2 := fun p => pnext_ok E p xB4
  rw [show baseOf xB4.L = 2 by decide] at q2
  have p3 := fun p => ppoll_ok E p xA4 2 9 v4 (by decide) (by decide)
  rw [show pollO xA4 9 = [] from rfl] at p3
  have t5 := fun p => ptake_ok E p xB4 3 [] u4 (by decide) (by decide)
  rw [show takeE [] = 2 by decide] at t5
  have sm := fun U V => rtexts_ok E true true U V [[120], [121]] [[120], [121]] (by decide)
  rw [decide_eq_true rfl] at sm
  generalize takeS xB4 [] = xB5 at *
  generalize pollS xA4 9 = xA5 at *
  generalize frm 0 (four 1) [121] = f1 at *
  generalize frm 0 (four 0) [120] = f0 at *
  generalize frm 2 [] [] = f2 at *
  clear v0 v1 v2 v3 v4 u1 u2 u3 u4 a1 a2 a3 a4 a5 a6 a7 a8 rb b2 e3
  generalize xB4 = xb4 at *
  generalize xB3 = xb3 at *
  generalize xB2 = xb2 at *
  generalize xB1 = xb1 at *
  generalize xA4 = xa4 at *
  generalize xA3 = xa3 at *
  generalize xA2 = xa2 at *
  generalize xA1 = xa1 at *
  refine Does.of Try.func7 rfl Try.ntmps7 rfl rfl fun F => ?_
  refine J.norm ?_
  refine J_seq ?_
  refine J_region ?_
  refine L_q (Q_assign rfl) rfl rfl rfl ?_
  refine JL_nil ?_
  refine seqQ_normal ?_
  refine J_seq ?_
  refine J_region ?_
  refine L_o rfl rfl rfl (O_call [] [0] hn rfl rfl ?_)
  rintro _ _ ⟨p, rfl, rfl⟩
  refine JL.norm ?_
  refine L_o rfl rfl rfl (O_call [] [0,1] hn rfl rfl ?_)
  rintro _ _ ⟨q, rfl, rfl⟩
  refine JL.norm ?_
  refine L_q (Q_assign rfl) rfl rfl rfl ?_
  refine L_q (Q_assign rfl) rfl rfl rfl ?_
  refine JL_nil ?_
  refine seqQ_normal ?_
  refine J_seq ?_
  refine J_seq ?_
  refine J_region ?_
  refine L_q (Q_move rfl) rfl rfl rfl ?_
  refine L_q ((Q_peql rfl rfl).as (v' := .bool false) rfl) rfl rfl rfl ?_
  refine L_q (Q_move rfl) rfl rfl rfl ?_
  refine L_q (Q_move rfl) rfl rfl rfl ?_
  refine L_q ((Q_peql rfl rfl).as (v' := .bool false) rfl) rfl rfl rfl ?_
  refine L_q (Q_pickF rfl rfl) rfl rfl rfl ?_
  refine JL_nil ?_
  refine seqQ_normal ?_
  refine J_condF rfl ?_
  refine J_skip ?_
  refine seqQ_normal ?_
  refine J_seq ?_
  refine J_region ?_
  refine L_q (Q_move rfl) rfl rfl rfl ?_
  refine L_o rfl rfl rfl (O_call [1] [0,2] (s1 p) rfl rfl ?_)
  rintro _ _ ⟨rfl, rfl⟩
  refine JL.norm ?_
  refine L_q (Q_move rfl) rfl rfl rfl ?_
  refine L_o rfl rfl rfl (O_call [0] [1,2] (s2 p) rfl rfl ?_)
  rintro _ _ ⟨rfl, rfl⟩
  refine JL.norm ?_
  refine L_q (Q_move rfl) rfl rfl rfl ?_
  refine L_o rfl rfl rfl (O_call [0] [1,2] (s3 p) rfl rfl ?_)
  rintro _ _ ⟨rfl, rfl⟩
  refine JL.norm ?_
  refine L_q (Q_assign rfl) rfl rfl rfl ?_
  refine L_q (Q_assign rfl) rfl rfl rfl ?_
  refine L_q (Q_assign rfl) rfl rfl rfl ?_
  refine JL_nil ?_
  refine seqQ_normal ?_
  refine J_seq ?_
  refine J_region ?_
  refine L_q (Q_move rfl) rfl rfl rfl ?_
  refine L_o rfl rfl rfl (O_call [0] [1,2] (p1 p) rfl rfl ?_)
  rintro _ _ ⟨O, rfl, rfl⟩
  refine JL.norm ?_
  refine L_q (Q_assign rfl) rfl rfl rfl ?_
  refine JL_nil ?_
  refine seqQ_normal ?_
  refine J_seq ?_
  refine J_seq ?_
  refine J_region ?_
  refine L_q (Q_move rfl) rfl rfl rfl ?_
  refine L_q (Q_lenAt 1 rfl rfl) rfl rfl rfl ?_
  refine L_q ((Q_neq rfl rfl).as (v' := .bool false) rfl) rfl rfl rfl ?_
  refine L_q (Q_move rfl) rfl rfl rfl ?_
  refine L_q (Q_move rfl) rfl rfl rfl ?_
  refine L_q (Q_move rfl) rfl rfl rfl ?_
  refine L_q (Q_ixAt 1 1 rfl rfl rfl rfl (by simp) rfl) rfl rfl rfl ?_
  refine L_q (Q_ldEAt 1 1 0 (v := str f1) rfl rfl rfl rfl (by simp) (by decide) rfl) rfl rfl rfl ?_
  refine L_o rfl rfl rfl (O_call [2] [0,1,3] (t1 q) rfl rfl ?_)
  rintro _ _ ⟨rfl, rfl⟩
  refine JL.norm ?_
  refine L_q ((Q_neq rfl rfl).as (v' := .bool false) rfl) rfl rfl rfl ?_
  refine L_q (Q_pickF rfl rfl) rfl rfl rfl ?_
  refine L_q (Q_move rfl) rfl rfl rfl ?_
  refine L_q (Q_move rfl) rfl rfl rfl ?_
  refine L_o rfl rfl rfl (O_call [0] [1,2,3] (o1 q) rfl rfl ?_)
  rintro _ _ ⟨U, rfl, rfl⟩
  refine JL.norm ?_
  refine L_q (Q_lenAt 1 rfl rfl) rfl rfl rfl ?_
  refine L_q ((Q_neq rfl rfl).as (v' := .bool false) rfl) rfl rfl rfl ?_
  refine L_q (Q_pickF rfl rfl) rfl rfl rfl ?_
  refine L_q (Q_move rfl) rfl rfl rfl ?_
  refine L_q (Q_move rfl) rfl rfl rfl ?_
  refine L_q (Q_move rfl) rfl rfl rfl ?_
  refine L_q (Q_ixAt 3 0 rfl rfl rfl rfl (by simp) rfl) rfl rfl rfl ?_
  refine L_q (Q_ldEAt 3 0 0 (v := str f0) rfl rfl rfl rfl (by simp) (by decide) rfl) rfl rfl rfl ?_
  refine L_o rfl rfl rfl (O_call [0] [1,2,3,4] (t2 q) rfl rfl ?_)
  rintro _ _ ⟨rfl, rfl⟩
  refine JL.norm ?_
  refine L_q ((Q_neq rfl rfl).as (v' := .bool false) rfl) rfl rfl rfl ?_
  refine L_q (Q_pickF rfl rfl) rfl rfl rfl ?_
  refine L_q (Q_move rfl) rfl rfl rfl ?_
  refine L_q (Q_move rfl) rfl rfl rfl ?_
  refine L_q (Q_move rfl) rfl rfl rfl ?_
  refine L_q (Q_ixAt 3 0 rfl rfl rfl rfl (by simp) rfl) rfl rfl rfl ?_
  refine L_q (Q_ldEAt 3 0 0 (v := str f0) rfl rfl rfl rfl (by simp) (by decide) rfl) rfl rfl rfl ?_
  refine L_o rfl rfl rfl (O_call [0] [1,2,3,4] (t3 q) rfl rfl ?_)
  rintro _ _ ⟨rfl, rfl⟩
  refine JL.norm ?_
  refine L_q ((Q_neq rfl rfl).as (v' := .bool false) rfl) rfl rfl rfl ?_
  refine L_q (Q_pickF rfl rfl) rfl rfl rfl ?_
  refine JL_nil ?_
  refine seqQ_normal ?_
  refine J_condF rfl ?_
  refine J_skip ?_
  refine seqQ_normal ?_
  refine J_seq ?_
  refine J_region ?_
  refine L_q (Q_move rfl) rfl rfl rfl ?_
  refine L_o rfl rfl rfl (O_call [0] [1,2,3,4] (p2 q) rfl rfl ?_)
  rintro _ _ ⟨O2, rfl, rfl⟩
  refine JL.norm ?_
  refine L_q (Q_assign rfl) rfl rfl rfl ?_
  refine JL_nil ?_
  refine seqQ_normal ?_
  refine J_seq ?_
  refine J_seq ?_
  refine J_region ?_
  refine L_q (Q_move rfl) rfl rfl rfl ?_
  refine L_q (Q_lenAt 1 rfl rfl) rfl rfl rfl ?_
  refine L_q ((Q_neq rfl rfl).as (v' := .bool false) rfl) rfl rfl rfl ?_
  refine L_q (Q_move rfl) rfl rfl rfl ?_
  refine L_q (Q_move rfl) rfl rfl rfl ?_
  refine L_q (Q_move rfl) rfl rfl rfl ?_
  refine L_q (Q_ixAt 1 0 rfl rfl rfl rfl (by simp) rfl) rfl rfl rfl ?_
  refine L_q (Q_ldEAt 1 0 0 (v := str f2) rfl rfl rfl rfl (by simp) (by decide) rfl) rfl rfl rfl ?_
  refine L_o rfl rfl rfl (O_call [3] [0,1,2,4,5] (t4 p) rfl rfl ?_)
  rintro _ _ ⟨rfl, rfl⟩
  refine JL.norm ?_
  refine L_q ((Q_neq rfl rfl).as (v' := .bool false) rfl) rfl rfl rfl ?_
  refine L_q (Q_pickF rfl rfl) rfl rfl rfl ?_
  refine JL_nil ?_
  refine seqQ_normal ?_
  refine J_condF rfl ?_
  refine J_skip ?_
  refine seqQ_normal ?_
  refine J_seq ?_
  refine J_region ?_
  refine L_q (Q_move rfl) rfl rfl rfl ?_
  refine L_q ((Q_eql rfl rfl).as (v' := .bool true) rfl) rfl rfl rfl ?_
  refine L_q (Q_move rfl) rfl rfl rfl ?_
  refine L_q (Q_move rfl) rfl rfl rfl ?_
  refine L_q ((Q_eql rfl rfl).as (v' := .bool true) rfl) rfl rfl rfl ?_
  refine L_q (Q_pickT rfl rfl) rfl rfl rfl ?_
  refine L_q (Q_move rfl) rfl rfl rfl ?_
  refine L_q (Q_move rfl) rfl rfl rfl ?_
  refine L_q ((Q_eql rfl rfl).as (v' := .bool true) rfl) rfl rfl rfl ?_
  refine L_q (Q_pickT rfl rfl) rfl rfl rfl ?_
  refine L_q (Q_move rfl) rfl rfl rfl ?_
  refine L_q (Q_move rfl) rfl rfl rfl ?_
  refine L_o rfl rfl rfl (O_call [1] [0,2,3,4,5] (o2 q) rfl rfl ?_)
  rintro _ _ ⟨U2, rfl, rfl⟩
  refine JL.norm ?_
  refine L_o rfl rfl rfl (O_litP (τ := tS) (m := 2) (sz := 1) [[120], [121]] rfl rfl rfl rfl rfl rfl (by decide) (fun U3 => ?_))
  refine JL.norm ?_
  refine L_o rfl rfl rfl (O_call [2,0] [1,3,4,5,6,7] (sm U2 U3) rfl rfl ?_)
  rintro _ _ ⟨rfl, rfl⟩
  refine JL.norm ?_
  refine L_q (Q_pickT rfl rfl) rfl rfl rfl ?_
  refine L_q (Q_move rfl) rfl rfl rfl ?_
  refine L_q (Q_move rfl) rfl rfl rfl ?_
  refine L_o rfl rfl rfl (O_call [3] [0,1,2,4,5,6,7] (q1 p) rfl rfl ?_)
  rintro _ _ ⟨rfl, rfl⟩
  refine JL.norm ?_
  refine L_q ((Q_eql rfl rfl).as (v' := .bool true) rfl) rfl rfl rfl ?_
  refine L_q (Q_pickT rfl rfl) rfl rfl rfl ?_
  refine L_q (Q_move rfl) rfl rfl rfl ?_
  refine L_q (Q_move rfl) rfl rfl rfl ?_
  refine L_o rfl rfl rfl (O_call [3] [0,1,2,4,5,6,7] (q2 q) rfl rfl ?_)
  rintro _ _ ⟨rfl, rfl⟩
  refine JL.norm ?_
  refine L_q ((Q_eql rfl rfl).as (v' := .bool true) rfl) rfl rfl rfl ?_
  refine L_q (Q_pickT rfl rfl) rfl rfl rfl ?_
  refine L_q (Q_move rfl) rfl rfl rfl ?_
  refine L_q (Q_move rfl) rfl rfl rfl ?_
  refine L_o rfl rfl rfl (O_call [1] [0,2,3,4,5,6,7] (p3 p) rfl rfl ?_)
  rintro _ _ ⟨O4, rfl, rfl⟩
  refine JL.norm ?_
  refine L_q (Q_lenAt 1 rfl rfl) rfl rfl rfl ?_
  refine L_q ((Q_eql rfl rfl).as (v' := .bool true) rfl) rfl rfl rfl ?_
  refine L_q (Q_pickT rfl rfl) rfl rfl rfl ?_
  refine L_q (Q_move rfl) rfl rfl rfl ?_
  refine L_q (Q_move rfl) rfl rfl rfl ?_
  refine L_o rfl rfl rfl (O_call [2] [0,1,3,4,5,6,7,8] (t5 q) rfl rfl ?_)
  rintro _ _ ⟨rfl, rfl⟩
  refine JL.norm ?_
  refine L_q ((Q_eql rfl rfl).as (v' := .bool true) rfl) rfl rfl rfl ?_
  refine L_q (Q_pickT rfl rfl) rfl rfl rfl ?_
  refine L_q (Q_assign rfl) rfl rfl rfl ?_
  refine JL_nil ?_
  refine seqQ_normal ?_
  refine J_ret ?_
  exact retQ_ret _ [] (.cons (RV_tmp rfl) .nil) ⟨rfl, rfl⟩ (Ent.re [8] rfl)
theorem pipenone_ok (E : World) (a b : Int) (s : By) : Does Try.prog E 6 [.agg #[.int .i64 a, .int .i64 b, str s]] [] fun v L => v = .bool true ∧ L = [] := by
  refine Does.of Try.func6 rfl Try.ntmps6 rfl rfl fun F => ?_
  refine J.norm ?_
  refine J_seq ?_
  refine J_region ?_
  refine L_o rfl rfl rfl (O_box rfl fun b1 => ?_)
  refine L_q (Q_assign rfl) rfl rfl rfl ?_
  refine JL_nil ?_
  refine seqQ_normal ?_
  refine J_seq ?_
  refine J_region ?_
  refine L_q (Q_assign rfl) rfl rfl rfl ?_
  refine JL_nil ?_
  refine seqQ_normal ?_
  refine J_seq ?_
  refine J_region ?_
  refine L_q (Q_move rfl) rfl rfl rfl ?_
  refine L_q (Q_fa0 rfl) rfl rfl rfl ?_
  refine L_q (Q_ld 0 rfl rfl rfl rfl) rfl rfl rfl ?_
  refine L_o rfl rfl rfl (O_call [] [0,1] (psend_nil E s) rfl rfl ?_)
  rintro _ _ ⟨rfl, rfl⟩
  refine JL.norm ?_
  refine L_q ((Q_eql rfl rfl).as (v' := .bool true) rfl) rfl rfl rfl ?_
  refine L_q (Q_move rfl) rfl rfl rfl ?_
  refine L_q (Q_move rfl) rfl rfl rfl ?_
  refine L_q (Q_fa0 rfl) rfl rfl rfl ?_
  refine L_q (Q_ld 0 rfl rfl rfl rfl) rfl rfl rfl ?_
  refine L_o rfl rfl rfl (O_call [] [0,1] (ptake_nil E s) rfl rfl ?_)
  rintro _ _ ⟨rfl, rfl⟩
  refine JL.norm ?_
  refine L_q ((Q_eql rfl rfl).as (v' := .bool true) rfl) rfl rfl rfl ?_
  refine L_q (Q_pickT rfl rfl) rfl rfl rfl ?_
  refine L_q (Q_move rfl) rfl rfl rfl ?_
  refine L_q (Q_move rfl) rfl rfl rfl ?_
  refine L_q (Q_fa0 rfl) rfl rfl rfl ?_
  refine L_q (Q_ld 0 rfl rfl rfl rfl) rfl rfl rfl ?_
  refine L_o rfl rfl rfl (O_call [] [0,1] (ppoll_nil E b) rfl rfl ?_)
  rintro _ _ ⟨rfl, rfl⟩
  refine JL.norm ?_
  refine L_q (Q_lenV (S := SV.nil) rfl) rfl rfl rfl ?_
  refine L_q ((Q_eql rfl rfl).as (v' := .bool true) rfl) rfl rfl rfl ?_
  refine L_q (Q_pickT rfl rfl) rfl rfl rfl ?_
  refine L_q (Q_move rfl) rfl rfl rfl ?_
  refine L_q (Q_move rfl) rfl rfl rfl ?_
  refine L_o rfl rfl rfl (O_call [] [0,1] (ptold_nil E) rfl rfl ?_)
  rintro _ _ ⟨rfl, rfl⟩
  refine JL.norm ?_
  refine L_q (Q_lenV (S := SV.nil) rfl) rfl rfl rfl ?_
  refine L_q ((Q_eql rfl rfl).as (v' := .bool true) rfl) rfl rfl rfl ?_
  refine L_q (Q_pickT rfl rfl) rfl rfl rfl ?_
  refine L_q (Q_move rfl) rfl rfl rfl ?_
  refine L_q (Q_move rfl) rfl rfl rfl ?_
  refine L_o rfl rfl rfl (O_call [] [0,1] (popen_nil E) rfl rfl ?_)
  rintro _ _ ⟨rfl, rfl⟩
  refine JL.norm ?_
  refine L_q ((Q_eql rfl rfl).as (v' := .bool true) rfl) rfl rfl rfl ?_
  refine L_q (Q_pickT rfl rfl) rfl rfl rfl ?_
  refine L_q (Q_move rfl) rfl rfl rfl ?_
  refine L_q (Q_move rfl) rfl rfl rfl ?_
  refine L_o rfl rfl rfl (O_call [] [0,1] (pnext_nil E) rfl rfl ?_)
  rintro _ _ ⟨rfl, rfl⟩
  refine JL.norm ?_
  refine L_q ((Q_eql rfl rfl).as (v' := .bool true) rfl) rfl rfl rfl ?_
  refine L_q (Q_pickT rfl rfl) rfl rfl rfl ?_
  refine L_q (Q_move rfl) rfl rfl rfl ?_
  refine L_o rfl rfl rfl (O_call [] [0,1] (awake_ok E) rfl rfl ?_)
  rintro _ _ ⟨rfl, rfl⟩
  refine JL.norm ?_
  refine L_q (Q_pickT rfl rfl) rfl rfl rfl ?_
  refine L_q (Q_assign rfl) rfl rfl rfl ?_
  refine JL_nil ?_
  refine seqQ_normal ?_
  refine J_ret ?_
  exact retQ_ret _ [] (.cons (RV_tmp rfl) .nil) ⟨rfl, rfl⟩ (Ent.re [1] rfl)
end Go.Proofs
