/- A tree: a key taken away, its depth, a tree like it. -/
import Derived.Test.YtihlnjafeocbnaaTree9
set_option autoImplicit false
namespace Go.Proofs
open Go.SL
theorem has_pos {l : List Kv} {k : Ky} (h : hasL l k = true) : 0 < l.length := by
  cases l with
  | nil => simp [hasL] at h
  | cons a l => exact Nat.succ_pos _
theorem flat_ne0 {d : Nat} {t : T d} (h : wf (min d 1) d t) (hn : flat d t ≠ []) : 2 * 4 ^ d ≤ (flat d t).length + 1 ∧ (flat d t).length + 1 ≤ 8 ^ (d + 1) := by
  cases d with
  | zero =>
    have h1 := (flat_size 0 t h).1
    have h2 : 0 < (flat 0 t).length := List.length_pos_iff.2 hn
    exact ⟨by simp; omega, h1⟩
  | succ d =>
    have hm : min (d + 1) 1 = 1 := Nat.min_eq_right (by omega)
    rw [hm] at h
    exact ⟨(flat_size (d + 1) t h).2, (flat_size (d + 1) t h).1⟩
theorem flat_one {d : Nat} {e : T d} : flat (d + 1) ([], [e]) = flat d e := by simp [flat, ileave]
attribute [local irreducible] J JL QOp JOp seqQ blockQ loopQ retQ slc cel hex star pur stars Does RV Ent pAt scopeQ
attribute [local irreducible] nodeA nodeX treeA
theorem tdel_ok (E : World) (p : Nat) (l : List Kv) (k : Ky) (hl : l.length ≤ 1000000) : Does Try.prog E 18 [.pointer (some ⟨p, 0, none⟩), str k] [treeA p l] fun r L => r = .bool (hasL l k) ∧ L = [treeA p (delL l k)] := by
  refine Does.of Try.func18 rfl Try.ntmps18 rfl rfl fun F => ?_
  refine J.norm ?_
  refine J_seq ?_
  refine J_region ?_
  refine L_q (Q_assign rfl) rfl rfl rfl ?_
  refine JL_nil ?_
  refine seqQ_normal ?_
  refine J_seq ?_
  refine J_seq ?_
  refine J_region ?_
  refine L_q (Q_move rfl) rfl rfl rfl ?_
  refine L_q (Q_move rfl) rfl rfl rfl ?_
  refine L_o rfl rfl rfl (O_call [0] [1] (tget_ok E p l k) rfl rfl ?_)
  rintro _ _ ⟨rfl, rfl⟩
  refine JL.norm ?_
  refine L_q (Q_move rfl) rfl rfl rfl ?_
  refine L_q (Q_extract (v := str (getL l k)) rfl rfl) rfl rfl rfl ?_
  refine L_q (Q_extract (v := .bool (hasL l k)) rfl rfl) rfl rfl rfl ?_
  refine L_q (Q_assign rfl) rfl rfl rfl ?_
  refine L_q (Q_assign rfl) rfl rfl rfl ?_
  refine JL_nil ?_
  refine seqQ_normal ?_
  refine J_seq ?_
  refine J.tree fun r d t hu hw hf => ?_
  cases hb : hasL l k with
  | false =>
    refine J_region ?_
    refine L_q (Q_move rfl) rfl rfl rfl ?_
    refine L_q ((Q_not rfl).as (v' := .bool true) rfl) rfl rfl rfl ?_
    refine JL_nil ?_
    refine seqQ_normal ?_
    refine J_condT rfl ?_
    refine J_seq ?_
    refine J_region ?_
    refine L_q (Q_assign rfl) rfl rfl rfl ?_
    refine JL_nil ?_
    refine seqQ_normal ?_
    refine J_ret ?_
    refine seqQ_ret ?_
    refine retQ_ret _ [treeA p (delL l k)] (.cons (RV_tmp rfl) .nil) ⟨rfl, rfl⟩ ?_
    rw [del_not hu hb]
    exact (Ent.mkX hw hf).trans ((Ent.re [1, 0, 2] rfl).trans (Ent.tree hu))
  | true =>
    have hdl := del_len hu k
    rw [if_pos hb] at hdl
    have hpos := has_pos hb
    have hnd := ndel_ok E d r (min d 1) t k hw (fun h => by omega) (by rw [hf]; exact hu) (by rw [hf]; exact hb)
    rw [hf] at hnd
    refine J_region ?_
    refine L_q (Q_move rfl) rfl rfl rfl ?_
    refine L_q ((Q_not rfl).as (v' := .bool false) rfl) rfl rfl rfl ?_
    refine JL_nil ?_
    refine seqQ_normal ?_
    refine J_condF rfl ?_
    refine J_skip ?_
    refine seqQ_normal ?_
    refine J_seq ?_
    refine J_region ?_
    refine L_q (Q_move rfl) rfl rfl rfl ?_
    refine L_q (Q_nilCheck rfl) rfl rfl rfl ?_
    refine L_q (Q_fa0 rfl) rfl rfl rfl ?_
    refine L_q (Q_ld 1 rfl rfl rfl rfl) rfl rfl rfl ?_
    refine L_q (Q_move rfl) rfl rfl rfl ?_
    refine L_o rfl rfl rfl (O_call [0] [1,2] hnd rfl rfl ?_)
    rintro _ _ ⟨rfl, rfl⟩
    refine JL.norm ?_
    refine JL_nil ?_
    refine seqQ_normal ?_
    refine J_seq ?_
    refine J_seq ?_
    refine J.outX fun t2 hw2 hf2 => ?_
    refine J.cut0 (fun e ρ' L' => e = .normal ∧ ∃ (r3 d3 : Nat) (t3 : T d3), wf (min d3 1) d3 t3 ∧ flat d3 t3 = delL l k ∧ envSub [(0, .pointer (some ⟨p, 0, none⟩))] ρ' ∧ Ent L' [nodeA d3 r3 t3, trC p r3 l.length, F]) ?_ ?_
    · cases d with
      | zero =>
        refine J.leaf fun S R => ?_
        by_cases h0 : (tks 0 t2).length = 0
        · skip
          refine J_region ?_
          refine L_q (Q_move rfl) rfl rfl rfl ?_
          refine L_q (Q_nilCheck rfl) rfl rfl rfl ?_
          refine L_q (Q_fa0 rfl) rfl rfl rfl ?_
          refine L_q (Q_ld 3 rfl rfl rfl rfl) rfl rfl rfl ?_
          refine L_q (Q_nilCheck rfl) rfl rfl rfl ?_
          refine L_q (Q_fa0 rfl) rfl rfl rfl ?_
          refine L_q (Q_ld 0 rfl rfl rfl rfl) rfl rfl rfl ?_
          refine L_q (Q_lenAt 1 rfl rfl) rfl rfl rfl ?_
          refine L_q ((Q_eql rfl rfl).as (v' := .bool true) (congrArg Value.bool (decide_eq_true (by omega)))) rfl rfl rfl ?_
          refine L_q (Q_move rfl) rfl rfl rfl ?_
          refine L_q (Q_move rfl) rfl rfl rfl ?_
          refine L_q (Q_nilCheck rfl) rfl rfl rfl ?_
          refine L_q (Q_fa0 rfl) rfl rfl rfl ?_
          refine L_q (Q_ld 3 rfl rfl rfl rfl) rfl rfl rfl ?_
          refine L_o rfl rfl rfl (O_call [0,2] [1,3,4] (leaf_ok E r S R []) rfl rfl ?_)
          rintro _ _ ⟨rfl, rfl⟩
          refine JL.norm ?_
          refine L_q ((Q_not rfl).as (v' := .bool false) rfl) rfl rfl rfl ?_
          refine L_q (Q_pickT rfl rfl) rfl rfl rfl ?_
          refine JL_nil ?_
          refine seqQ_normal ?_
          refine J_condF rfl ?_
          refine J_skip ?_
          exact ⟨rfl, r, 0, t2, wf_mk hw2 (Nat.zero_le _), hf2, ⟨rfl, trivial⟩, (Ent.re [0, 2, 1, 3, 4] rfl).trans Ent.leafA⟩
        · skip
          refine J_region ?_
          refine L_q (Q_move rfl) rfl rfl rfl ?_
          refine L_q (Q_nilCheck rfl) rfl rfl rfl ?_
          refine L_q (Q_fa0 rfl) rfl rfl rfl ?_
          refine L_q (Q_ld 3 rfl rfl rfl rfl) rfl rfl rfl ?_
          refine L_q (Q_nilCheck rfl) rfl rfl rfl ?_
          refine L_q (Q_fa0 rfl) rfl rfl rfl ?_
          refine L_q (Q_ld 0 rfl rfl rfl rfl) rfl rfl rfl ?_
          refine L_q (Q_lenAt 1 rfl rfl) rfl rfl rfl ?_
          refine L_q ((Q_eql rfl rfl).as (v' := .bool false) (congrArg Value.bool (decide_eq_false (by omega)))) rfl rfl rfl ?_
          refine L_q (Q_move rfl) rfl rfl rfl ?_
          refine L_n rfl rfl rfl ?_
          refine L_n rfl rfl rfl ?_
          refine L_n rfl rfl rfl ?_
          refine L_n rfl rfl rfl ?_
          refine L_n rfl rfl rfl ?_
          refine L_n rfl rfl rfl ?_
          refine L_q (Q_pickF rfl rfl) rfl rfl rfl ?_
          refine JL_nil ?_
          refine seqQ_normal ?_
          refine J_condF rfl ?_
          refine J_skip ?_
          exact ⟨rfl, r, 0, t2, wf_mk hw2 (Nat.zero_le _), hf2, ⟨rfl, trivial⟩, Ent.leafA⟩
      | succ d =>
        obtain ⟨K, C⟩ := t2
        refine J.inner fun S R es hes => ?_
        obtain ⟨_, h7, hC, hwc⟩ := hw2
        dsimp only at hes h7 hC hwc ⊢
        subst hes
        rw [List.length_map] at hC
        have hm1 : min (d + 1) 1 = 1 := Nat.min_eq_right (by omega)
        by_cases h0 : K.length = 0
        · have hlf := leaf_ok E r S R (pL es)
          rw [show decide (((pL es).length : Int) = 0) = false from decide_eq_false (by rw [pL_len]; omega)] at hlf
          obtain ⟨e, B, rfl⟩ := cons_of (l := es) (by omega)
          have hB : B = [] := List.eq_nil_of_length_eq_zero (by rw [List.length_cons] at hC; omega)
          subst hB
          have hK : K = [] := List.eq_nil_of_length_eq_zero h0
          subst hK
          have hPl : 0 < (pL (e :: [])).length := Nat.succ_pos _
          refine J_region ?_
          refine L_q (Q_move rfl) rfl rfl rfl ?_
          refine L_q (Q_nilCheck rfl) rfl rfl rfl ?_
          refine L_q (Q_fa0 rfl) rfl rfl rfl ?_
          refine L_q (Q_ld 4 rfl rfl rfl rfl) rfl rfl rfl ?_
          refine L_q (Q_nilCheck rfl) rfl rfl rfl ?_
          refine L_q (Q_fa0 rfl) rfl rfl rfl ?_
          refine L_q (Q_ld 0 rfl rfl rfl rfl) rfl rfl rfl ?_
          refine L_q (Q_lenAt 1 rfl rfl) rfl rfl rfl ?_
          refine L_q ((Q_eql rfl rfl).as (v' := .bool true) rfl) rfl rfl rfl ?_
          refine L_q (Q_move rfl) rfl rfl rfl ?_
          refine L_q (Q_move rfl) rfl rfl rfl ?_
          refine L_q (Q_nilCheck rfl) rfl rfl rfl ?_
          refine L_q (Q_fa0 rfl) rfl rfl rfl ?_
          refine L_q (Q_ld 4 rfl rfl rfl rfl) rfl rfl rfl ?_
          refine L_o rfl rfl rfl (O_call [0,2] [1,3,4,5] hlf rfl rfl ?_)
          rintro _ _ ⟨rfl, rfl⟩
          refine JL.norm ?_
          refine L_q ((Q_not rfl).as (v' := .bool true) rfl) rfl rfl rfl ?_
          refine L_q (Q_pickT rfl rfl) rfl rfl rfl ?_
          refine JL_nil ?_
          refine seqQ_normal ?_
          refine J_condT rfl ?_
          refine J_region ?_
          refine L_q (Q_move rfl) rfl rfl rfl ?_
          refine L_q (Q_move rfl) rfl rfl rfl ?_
          refine L_q (Q_nilCheck rfl) rfl rfl rfl ?_
          refine L_q (Q_fa0 rfl) rfl rfl rfl ?_
          refine L_q (Q_ld 4 rfl rfl rfl rfl) rfl rfl rfl ?_
          refine L_q (Q_nilCheck rfl) rfl rfl rfl ?_
          refine L_q (Q_fa0 rfl) rfl rfl rfl ?_
          refine L_q (Q_ld 0 rfl rfl rfl rfl) rfl rfl rfl ?_
          refine L_q (Q_ixAt 1 0 rfl rfl rfl rfl hPl rfl) rfl rfl rfl ?_
          refine L_q (Q_ldEAt 1 0 0 (v := .pointer (some ⟨e.1, 0, none⟩)) rfl rfl rfl rfl hPl (by decide) rfl) rfl rfl rfl ?_
          refine L_q (Q_nilCheck rfl) rfl rfl rfl ?_
          refine L_q (Q_fa0 rfl) rfl rfl rfl ?_
          refine L_s rfl rfl (O_st1 4 rfl rfl rfl rfl rfl ?_)
          refine JL.norm ?_
          refine JL_nil ?_
          refine ⟨rfl, e.1, d, e.2, wf_mk (hwc e.2 (by simp)) ?_, ?_, ⟨rfl, trivial⟩, ?_⟩
          · have := (wf_ks (hwc e.2 (by simp))).1; omega
          · rw [← hf2]; exact flat_one.symm
          · exact (Ent.re [3, 4, 5] rfl).trans ((Ent.mid_out (ndE d) [] e []).trans (Ent.re [0, 2, 3] rfl))
        · skip
          refine J_region ?_
          refine L_q (Q_move rfl) rfl rfl rfl ?_
          refine L_q (Q_nilCheck rfl) rfl rfl rfl ?_
          refine L_q (Q_fa0 rfl) rfl rfl rfl ?_
          refine L_q (Q_ld 4 rfl rfl rfl rfl) rfl rfl rfl ?_
          refine L_q (Q_nilCheck rfl) rfl rfl rfl ?_
          refine L_q (Q_fa0 rfl) rfl rfl rfl ?_
          refine L_q (Q_ld 0 rfl rfl rfl rfl) rfl rfl rfl ?_
          refine L_q (Q_lenAt 1 rfl rfl) rfl rfl rfl ?_
          refine L_q ((Q_eql rfl rfl).as (v' := .bool false) (congrArg Value.bool (decide_eq_false (by omega)))) rfl rfl rfl ?_
          refine L_q (Q_move rfl) rfl rfl rfl ?_
          refine L_n rfl rfl rfl ?_
          refine L_n rfl rfl rfl ?_
          refine L_n rfl rfl rfl ?_
          refine L_n rfl rfl rfl ?_
          refine L_n rfl rfl rfl ?_
          refine L_n rfl rfl rfl ?_
          refine L_q (Q_pickF rfl rfl) rfl rfl rfl ?_
          refine JL_nil ?_
          refine seqQ_normal ?_
          refine J_condF rfl ?_
          refine J_skip ?_
          exact ⟨rfl, r, d + 1, (K, es.map (·.2)), ⟨by rw [hm1]; show 1 ≤ K.length; omega, h7, by simpa using hC, hwc⟩, hf2, ⟨rfl, trivial⟩, Ent.innerA rfl⟩
    rintro _ ρ' L' ⟨rfl, r3, d3, t3, hw3, hf3, hsub, hent⟩
    refine seqQ_normal ?_
    refine J.sub hsub ?_
    refine J.ent hent ?_
    refine J_seq ?_
    refine J_region ?_
    refine L_q (Q_move rfl) rfl rfl rfl ?_
    refine L_q (Q_nilCheck rfl) rfl rfl rfl ?_
    refine L_q (Q_fa0 rfl) rfl rfl rfl ?_
    refine L_q (Q_ld 1 rfl rfl rfl rfl) rfl rfl rfl ?_
    refine L_q (Q_sub rfl rfl (by first | exact IntWalk.i64_in _ (by omega) | exact IntWalk.u8_in _ (by omega) | exact IntWalk.u32_in _ (by omega) | exact IntWalk.u64_in _ (by omega) | rfl)) rfl rfl rfl ?_
    refine L_q (Q_nilCheck rfl) rfl rfl rfl ?_
    refine L_q (Q_fa0 rfl) rfl rfl rfl ?_
    refine L_s rfl rfl (O_st1 1 rfl rfl rfl rfl rfl ?_)
    refine JL.norm ?_
    refine JL_nil ?_
    refine seqQ_normal ?_
    refine J_seq ?_
    refine J_region ?_
    refine L_q (Q_assign rfl) rfl rfl rfl ?_
    refine JL_nil ?_
    refine seqQ_normal ?_
    refine J_ret ?_
    exact retQ_ret _ [treeA p (delL l k)] (.cons (RV_tmp rfl) .nil) ⟨rfl, rfl⟩ ((Ent.mkX hw3 hf3).trans ((Ent.re [1, 0, 2] rfl).trans (Ent.treeN (up_del hu k) (by rw [hdl]; omega))))
theorem tdepth_ok (E : World) (p0 : Nat) (l : List Kv) (hl : l.length ≤ 1000000) : Does Try.prog E 20 [.pointer (some ⟨p0, 0, none⟩)] [treeA p0 l] fun v L => ∃ D : Nat, (l = [] → D = 0) ∧ (l ≠ [] → 1 ≤ D ∧ 2 * 4 ^ (D - 1) ≤ l.length + 1 ∧ l.length + 1 ≤ 8 ^ D) ∧ v = .int .i64 (D : Int) ∧ L = [treeA p0 l] := by
  refine Does.of Try.func20 rfl Try.ntmps20 rfl rfl fun F => ?_
  refine J.norm ?_
  refine J_seq ?_
  refine J_region ?_
  refine L_q (Q_assign rfl) rfl rfl rfl ?_
  refine JL_nil ?_
  refine seqQ_normal ?_
  refine J_seq ?_
  refine J_seq ?_
  by_cases h0 : l = []
  · subst h0
    refine J_region ?_
    refine L_q (Q_move rfl) rfl rfl rfl ?_
    refine L_o rfl rfl rfl (O_call [0] [1] (tlen_ok E p0 []) rfl rfl ?_)
    rintro _ _ ⟨rfl, rfl⟩
    refine JL.norm ?_
    refine L_q ((Q_eql rfl rfl).as (v' := .bool true) rfl) rfl rfl rfl ?_
    refine JL_nil ?_
    refine seqQ_normal ?_
    refine J_condT rfl ?_
    refine J_seq ?_
    refine J_region ?_
    refine L_q (Q_assign rfl) rfl rfl rfl ?_
    refine JL_nil ?_
    refine seqQ_normal ?_
    refine J_ret ?_
    refine seqQ_ret ?_
    exact retQ_ret _ [treeA p0 []] (.cons (RV_tmp rfl) .nil) ⟨0, fun _ => rfl, fun h => absurd rfl h, rfl, rfl⟩ (Ent.refl _)
  · have hpos : 0 < l.length := List.length_pos_iff.2 h0
    refine J_region ?_
    refine L_q (Q_move rfl) rfl rfl rfl ?_
    refine L_o rfl rfl rfl (O_call [0] [1] (tlen_ok E p0 l) rfl rfl ?_)
    rintro _ _ ⟨rfl, rfl⟩
    refine JL.norm ?_
    refine L_q ((Q_eql rfl rfl).as (v' := .bool false) (congrArg Value.bool (decide_eq_false (by omega)))) rfl rfl rfl ?_
    refine JL_nil ?_
    refine seqQ_normal ?_
    refine J_condF rfl ?_
    refine J_skip ?_
    refine seqQ_normal ?_
    refine J_seq ?_
    refine J.tree fun r d t hu hw hf => ?_
    have hsz := flat_ne0 hw (by rw [hf]; exact h0)
    rw [hf] at hsz
    have hd : d ≤ 20 := by
      rcases Nat.lt_or_ge 20 d with h | h
      · have : 4 ^ 21 ≤ 4 ^ d := Nat.pow_le_pow_right (by decide) h
        have h3 : (4 : Nat) ^ 21 = 4398046511104 := by decide
        omega
      · exact h
    refine J_region ?_
    refine L_q (Q_assign rfl) rfl rfl rfl ?_
    refine JL_nil ?_
    refine seqQ_normal ?_
    refine J_seq ?_
    refine J_seq ?_
    refine J_region ?_
    refine L_q (Q_move rfl) rfl rfl rfl ?_
    refine L_q (Q_nilCheck rfl) rfl rfl rfl ?_
    refine L_q (Q_fa0 rfl) rfl rfl rfl ?_
    refine L_q (Q_ld 1 rfl rfl rfl rfl) rfl rfl rfl ?_
    refine L_q (Q_assign rfl) rfl rfl rfl ?_
    refine JL_nil ?_
    refine seqQ_normal ?_
    refine J_block ?_
    refine J_loop (fun i : It => wf i.m i.d i.t ∧ i.d ≤ d ∧ Ent [nodeA i.d i.p i.t, i.G] [treeA p0 l, F])
      (fun i => [(3, .int .i64 ((d - i.d + 1 : Nat) : Int)), (4, .pointer (some ⟨i.p, 0, none⟩))]) (fun i => [nodeA i.d i.p i.t, i.G]) (fun i => i.d) ⟨d, r, min d 1, t, stars [trC p0 r l.length, F]⟩ ⟨hw, Nat.le_refl _, Ent.treeF hu hw hf⟩ ⟨by rw [Nat.sub_self]; rfl, rfl, trivial⟩ Ent.foldR ?_
    rintro ⟨d2, p, m, t2, G⟩ ⟨hw2, hd2, hcl⟩
    dsimp only at hw2 hd2 hcl ⊢
    cases d2 with
    | zero =>
      refine J.leaf fun S R => ?_
      refine J_seq ?_
      refine J_seq ?_
      refine J_region ?_
      refine L_q (Q_move rfl) rfl rfl rfl ?_
      refine L_o rfl rfl rfl (O_call [0,2] [1,3] (leaf_ok E p S R []) rfl rfl ?_)
      rintro _ _ ⟨rfl, rfl⟩
      refine JL.norm ?_
      refine L_q ((Q_not rfl).as (v' := .bool false) rfl) rfl rfl rfl ?_
      refine JL_nil ?_
      refine seqQ_normal ?_
      refine J_condF rfl ?_
      refine J_exit ?_
      refine seqQ_exit ?_
      refine loopQ_exit ?_
      refine blockQ_hit ?_
      refine seqQ_normal ?_
      refine J_seq ?_
      refine J_region ?_
      refine L_q (Q_move rfl) rfl rfl rfl ?_
      refine L_q (Q_assign rfl) rfl rfl rfl ?_
      refine JL_nil ?_
      refine seqQ_normal ?_
      refine J_ret ?_
      exact retQ_ret _ [treeA p0 l] (.cons (RV_tmp rfl) .nil) ⟨d + 1, fun h => absurd h h0, fun _ => ⟨Nat.succ_pos _, hsz.1, hsz.2⟩, rfl, rfl⟩ ((Ent.re [0, 2, 1, 3] rfl).trans (Ent.leafA.trans hcl))
    | succ d3 =>
      obtain ⟨K, C⟩ := t2
      refine J.inner fun S R es hes => ?_
      obtain ⟨_, h7, hC, hwc⟩ := hw2
      dsimp only at hes h7 hC hwc ⊢
      subst hes
      rw [List.length_map] at hC
      have hlf := leaf_ok E p S R (pL es)
      rw [show decide (((pL es).length : Int) = 0) = false from decide_eq_false (by rw [pL_len]; omega)] at hlf
      obtain ⟨e, B, rfl⟩ := cons_of (l := es) (by omega)
      have hPl : 0 < (pL (e :: B)).length := Nat.succ_pos _
      refine J_seq ?_
      refine J_seq ?_
      refine J_region ?_
      refine L_q (Q_move rfl) rfl rfl rfl ?_
      refine L_o rfl rfl rfl (O_call [0,2] [1,3,4] hlf rfl rfl ?_)
      rintro _ _ ⟨rfl, rfl⟩
      refine JL.norm ?_
      refine L_q ((Q_not rfl).as (v' := .bool true) rfl) rfl rfl rfl ?_
      refine JL_nil ?_
      refine seqQ_normal ?_
      refine J_condT rfl ?_
      refine J_skip ?_
      refine seqQ_normal ?_
      refine J_seq ?_
      refine J_block ?_
      refine J_region ?_
      refine L_q (Q_move rfl) rfl rfl rfl ?_
      refine L_q (Q_add (r := ((d - d3 + 1 : Nat) : Int)) rfl rfl (by rw [show ((d - (d3 + 1) + 1 : Nat) : Int) + 1 = ((d - d3 + 1 : Nat) : Int) by omega]; exact IntWalk.i64_in _ (by omega))) rfl rfl rfl ?_
      refine L_q (Q_assign rfl) rfl rfl rfl ?_
      refine JL_nil ?_
      refine blockQ_normal ?_
      refine seqQ_normal ?_
      refine J_region ?_
      refine L_q (Q_move rfl) rfl rfl rfl ?_
      refine L_q (Q_nilCheck rfl) rfl rfl rfl ?_
      refine L_q (Q_fa0 rfl) rfl rfl rfl ?_
      refine L_q (Q_ld 0 rfl rfl rfl rfl) rfl rfl rfl ?_
      refine L_q (Q_ixAt 1 0 rfl rfl rfl rfl hPl rfl) rfl rfl rfl ?_
      refine L_q (Q_ldEAt 1 0 0 (v := .pointer (some ⟨e.1, 0, none⟩)) rfl rfl rfl rfl hPl (by decide) rfl) rfl rfl rfl ?_
      refine L_q (Q_assign rfl) rfl rfl rfl ?_
      refine JL_nil ?_
      refine loopQ_normal ⟨d3, e.1, 3, e.2, stars (parL p S R K (pL [] ++ some e.1 :: pL B) ([] ++ B) G)⟩ ⟨hwc e.2 (by simp), by show d3 ≤ d; omega, (Ent.up (A := [])).trans hcl⟩ (Nat.lt_succ_self d3) ⟨rfl, rfl, trivial⟩ ((Ent.re [0, 2, 1, 3, 4] rfl).trans (Ent.downN (A := [])))
end Go.Proofs
