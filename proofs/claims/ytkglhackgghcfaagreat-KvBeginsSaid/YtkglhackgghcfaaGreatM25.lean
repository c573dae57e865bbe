/- Part 25 of the texts below the row: Begs38, Law38. -/
import Derived.Test.YtkglhackgghcfaaGreatM24
/- The law KvBegins: its walk. -/
set_option autoImplicit false
namespace Go.Proofs
open Go.SL Go.Proofs.Bt
def tSl : Ty SV := ⟨36, 1, fun S => [S.v], fun _ => rfl, by decide, fun a v hv => by simp at hv; subst hv; rfl⟩
instance : TyU Tryz.prog tSl.e (.slice 77) := inferInstanceAs (TyU Tryz.prog 36 (.slice 77))
instance : TyI Tryz.prog tSl.e 1 (.slice none 0 0) 24 := inferInstanceAs (TyI Tryz.prog 36 1 (.slice none 0 0) 24)
instance : TyU Tryz.prog 27 (.slice tSl.e) := inferInstanceAs (TyU Tryz.prog 27 (.slice 36))
theorem lor_one38 (i : Nat) (h : i < 64) : IntKind.u64.wrap ((BitVec.ofInt IntKind.u64.bits (IntKind.u64.wrap ((((2 ^ i - 1 : Nat)) : Int) * 2 ^ (min (1 : Int).toNat IntKind.u64.bits))) ||| BitVec.ofInt IntKind.u64.bits 1).toNat : Int) = ((2 ^ (i + 1) - 1 : Nat) : Int) := by
  obtain ⟨h1, h2⟩ := or_one i h
  have e1 : ((((2 ^ i - 1 : Nat)) : Int) * 2 ^ (min (1 : Int).toNat IntKind.u64.bits)) = (((2 ^ i - 1) * 2 : Nat) : Int) := by
    rw [show min (1 : Int).toNat IntKind.u64.bits = 1 by decide]; push_cast; rfl
  have h3 : 2 ^ (i + 1) - 1 < 2 ^ 64 := by have := Nat.pow_le_pow_right (n := 2) (by decide) (show i + 1 ≤ 64 by omega); have := Nat.two_pow_pos 64; omega
  have e2 : IntKind.u64.wrap (((2 ^ i - 1) * 2 : Nat) : Int) = (((2 ^ i - 1) * 2 : Nat) : Int) := IntWalk.u64_in _ (by omega)
  rw [e1, e2]
  show IntKind.u64.wrap ((BitVec.ofInt 64 _ ||| BitVec.ofInt 64 ((1 : Nat) : Int)).toNat : Int) = _
  rw [BitVec.ofInt_natCast, BitVec.ofInt_natCast, BitVec.toNat_or, BitVec.toNat_ofNat, BitVec.toNat_ofNat, Nat.mod_eq_of_lt h2, Nat.mod_eq_of_lt (by decide), h1]
  exact IntWalk.u64_in _ (by omega)
structure Bx where
  k : Nat
  K : Kst
  base : List Kv
  n : Nat
  all : List (List UInt8)
  B : SV
  Ss : List SV
  C : HProp
def Behind (E : World) (C : HProp) (Ss : List SV) (all : List (List UInt8)) : Prop := Ss.length = all.length + 1 ∧ ∀ (i : Nat) (h : i < Ss.length), Rdy E C Ss[i] (repA all i)
theorem behind_nil {E : World} {C : HProp} : Behind E C [SV.nil] [] := ⟨rfl, fun i h => by
  obtain rfl : i = 0 := by simp at h; omega
  exact Rdy.nil⟩
theorem Behind.app {E : World} {C : HProp} {Ss : List SV} {all : List (List UInt8)} (h : Behind E C Ss all) (x : List UInt8) (S : SV) : Behind E (star C (slc tKv true S (repA (all ++ [x]) (all ++ [x]).length))) (Ss ++ [S]) (all ++ [x]) := by
  refine ⟨by simp [h.1], fun i hi => ?_⟩
  by_cases hlt : i < Ss.length
  · have e0 := repA_app x (show i ≤ all.length by have := h.1; omega)
    rw [List.getElem_append_left hlt, e0]
    exact (h.2 i hlt).old
  · have hl := h.1
    have e : i = all.length + 1 := by simp at hi; omega
    subst e
    rw [List.getElem_append_right (by omega)]
    have e2 : all.length + 1 = (all ++ [x]).length := by simp
    simp only [show all.length + 1 - Ss.length = 0 by omega, List.getElem_singleton]
    rw [e2]
    exact Rdy.new
attribute [local irreducible] J JL QOp JOp seqQ blockQ loopQ retQ slc cel hex star pur stars Does RV Ent pAt scopeQ
attribute [local irreducible] nodeA nodeX treeA segA snapA kvA
theorem kbegins_ok (E : World) (z : Int) (T : SV) (l : List Dv) (keep : Int) : Does Tryz.prog E 3 [.int .i64 z, T.v, .int .i64 keep] [slc tDv false T l] fun v L => v = .bool true ∧ L = [] := by
  have hfew := fewV_ok E T l
  refine Does.of Tryz.func3 rfl Tryz.ntmps3 rfl rfl fun F => ?_
  refine J.norm ?_
  cases hb : fewV l with
  | false =>
    rw [fewW_f hb] at hfew
    refine J_seq ?_
    refine J_region ?_
    refine L_q (Q_assign rfl) rfl rfl rfl ?_
    refine JL_nil ?_
    refine seqQ_normal ?_
    refine J_seq ?_
    refine J_seq ?_
    refine J_region ?_
    refine L_q (Q_move rfl) rfl rfl rfl ?_
    refine L_o rfl rfl rfl (O_call [0] [1] hfew rfl rfl ?_)
    rintro _ _ ⟨rfl, rfl⟩
    refine JL.norm ?_
    refine L_q ((Q_eql rfl rfl).as (v' := .bool true) rfl) rfl rfl rfl ?_
    refine L_q (Q_move rfl) rfl rfl rfl ?_
    refine L_n rfl rfl rfl ?_
    refine L_n rfl rfl rfl ?_
    refine L_q (Q_pickT rfl rfl) rfl rfl rfl ?_
    refine L_q (Q_move rfl) rfl rfl rfl ?_
    refine L_n rfl rfl rfl ?_
    refine L_n rfl rfl rfl ?_
    refine L_q (Q_pickT rfl rfl) rfl rfl rfl ?_
    refine JL_nil ?_
    refine seqQ_normal ?_
    refine J_condT rfl ?_
    refine J_seq ?_
    refine J_region ?_
    refine L_o rfl rfl rfl (O_call [] [0,1] (awake38_ok E) rfl rfl ?_)
    rintro _ _ ⟨rfl, rfl⟩
    refine JL.norm ?_
    refine L_q (Q_assign rfl) rfl rfl rfl ?_
    refine JL_nil ?_
    refine seqQ_normal ?_
    refine J_ret ?_
    refine seqQ_ret ?_
    exact retQ_ret _ [] (.cons (RV_tmp rfl) .nil) ⟨rfl, rfl⟩ (Ent.re [1] rfl)
  | true =>
  rw [fewW_t hb] at hfew
  have hl60 := (fewV_text hb).1
  by_cases hk0 : keep < 0
  · refine J_seq ?_
    refine J_region ?_
    refine L_q (Q_assign rfl) rfl rfl rfl ?_
    refine JL_nil ?_
    refine seqQ_normal ?_
    refine J_seq ?_
    refine J_seq ?_
    refine J_region ?_
    refine L_q (Q_move rfl) rfl rfl rfl ?_
    refine L_o rfl rfl rfl (O_call [0] [1] hfew rfl rfl ?_)
    rintro _ _ ⟨rfl, rfl⟩
    refine JL.norm ?_
    refine L_q ((Q_eql rfl rfl).as (v' := .bool false) rfl) rfl rfl rfl ?_
    refine L_q (Q_move rfl) rfl rfl rfl ?_
    refine L_q (Q_move rfl) rfl rfl rfl ?_
    refine L_q ((Q_lss rfl rfl).as (v' := .bool true) (congrArg Value.bool (decide_eq_true hk0))) rfl rfl rfl ?_
    refine L_q (Q_pickF rfl rfl) rfl rfl rfl ?_
    refine L_q (Q_move rfl) rfl rfl rfl ?_
    refine L_n rfl rfl rfl ?_
    refine L_n rfl rfl rfl ?_
    refine L_q (Q_pickT rfl rfl) rfl rfl rfl ?_
    refine JL_nil ?_
    refine seqQ_normal ?_
    refine J_condT rfl ?_
    refine J_seq ?_
    refine J_region ?_
    refine L_o rfl rfl rfl (O_call [] [0,1] (awake38_ok E) rfl rfl ?_)
    rintro _ _ ⟨rfl, rfl⟩
    refine JL.norm ?_
    refine L_q (Q_assign rfl) rfl rfl rfl ?_
    refine JL_nil ?_
    refine seqQ_normal ?_
    refine J_ret ?_
    refine seqQ_ret ?_
    exact retQ_ret _ [] (.cons (RV_tmp rfl) .nil) ⟨rfl, rfl⟩ (Ent.re [1] rfl)
  by_cases hk1 : keep > 64
  · refine J_seq ?_
    refine J_region ?_
    refine L_q (Q_assign rfl) rfl rfl rfl ?_
    refine JL_nil ?_
    refine seqQ_normal ?_
    refine J_seq ?_
    refine J_seq ?_
    refine J_region ?_
    refine L_q (Q_move rfl) rfl rfl rfl ?_
    refine L_o rfl rfl rfl (O_call [0] [1] hfew rfl rfl ?_)
    rintro _ _ ⟨rfl, rfl⟩
    refine JL.norm ?_
    refine L_q ((Q_eql rfl rfl).as (v' := .bool false) rfl) rfl rfl rfl ?_
    refine L_q (Q_move rfl) rfl rfl rfl ?_
    refine L_q (Q_move rfl) rfl rfl rfl ?_
    refine L_q ((Q_lss rfl rfl).as (v' := .bool false) (congrArg Value.bool (decide_eq_false hk0))) rfl rfl rfl ?_
    refine L_q (Q_pickF rfl rfl) rfl rfl rfl ?_
    refine L_q (Q_move rfl) rfl rfl rfl ?_
    refine L_q (Q_move rfl) rfl rfl rfl ?_
    refine L_q ((Q_gtr rfl rfl).as (v' := .bool true) (congrArg Value.bool (decide_eq_true hk1))) rfl rfl rfl ?_
    refine L_q (Q_pickF rfl rfl) rfl rfl rfl ?_
    refine JL_nil ?_
    refine seqQ_normal ?_
    refine J_condT rfl ?_
    refine J_seq ?_
    refine J_region ?_
    refine L_o rfl rfl rfl (O_call [] [0,1] (awake38_ok E) rfl rfl ?_)
    rintro _ _ ⟨rfl, rfl⟩
    refine JL.norm ?_
    refine L_q (Q_assign rfl) rfl rfl rfl ?_
    refine JL_nil ?_
    refine seqQ_normal ?_
    refine J_ret ?_
    refine seqQ_ret ?_
    exact retQ_ret _ [] (.cons (RV_tmp rfl) .nil) ⟨rfl, rfl⟩ (Ent.re [1] rfl)
  refine J_seq ?_
  refine J_region ?_
  refine L_q (Q_assign rfl) rfl rfl rfl ?_
  refine JL_nil ?_
  refine seqQ_normal ?_
  refine J_seq ?_
  refine J_seq ?_
  refine J_region ?_
  refine L_q (Q_move rfl) rfl rfl rfl ?_
  refine L_o rfl rfl rfl (O_call [0] [1] hfew rfl rfl ?_)
  rintro _ _ ⟨rfl, rfl⟩
  refine JL.norm ?_
  refine L_q ((Q_eql rfl rfl).as (v' := .bool false) rfl) rfl rfl rfl ?_
  refine L_q (Q_move rfl) rfl rfl rfl ?_
  refine L_q (Q_move rfl) rfl rfl rfl ?_
  refine L_q ((Q_lss rfl rfl).as (v' := .bool false) (congrArg Value.bool (decide_eq_false hk0))) rfl rfl rfl ?_
  refine L_q (Q_pickF rfl rfl) rfl rfl rfl ?_
  refine L_q (Q_move rfl) rfl rfl rfl ?_
  refine L_q (Q_move rfl) rfl rfl rfl ?_
  refine L_q ((Q_gtr rfl rfl).as (v' := .bool false) (congrArg Value.bool (decide_eq_false hk1))) rfl rfl rfl ?_
  refine L_q (Q_pickF rfl rfl) rfl rfl rfl ?_
  refine JL_nil ?_
  refine seqQ_normal ?_
  refine J_condF rfl ?_
  refine J_skip ?_
  refine seqQ_normal ?_
  refine J_seq ?_
  obtain ⟨m, rfl⟩ : ∃ m : Nat, keep = (m : Int) := ⟨keep.toNat, by omega⟩
  have hm : m ≤ 64 := by omega
  refine J_region ?_
  refine L_q (Q_move rfl) rfl rfl rfl ?_
  refine L_o rfl rfl rfl (O_call [] [0,1] (anew_ok E z) rfl rfl ?_)
  rintro _ _ ⟨p, rfl, rfl⟩
  refine JL.norm ?_
  refine L_q (Q_assign rfl) rfl rfl rfl ?_
  refine JL_nil ?_
  refine seqQ_normal ?_
  refine J_seq ?_
  refine J_region ?_
  refine L_o rfl rfl rfl (O_litP (τ := tSl) (m := 1) (sz := 1) [SV.nil] rfl rfl rfl rfl rfl rfl (by decide) (fun B0 => ?_))
  refine JL.norm ?_
  refine L_q (Q_assign rfl) rfl rfl rfl ?_
  refine JL_nil ?_
  refine seqQ_normal ?_
  refine J_seq ?_
  refine J_seq ?_
  refine J_region ?_
  refine L_q (Q_assign rfl) rfl rfl rfl ?_
  refine JL_nil ?_
  refine seqQ_normal ?_
  refine J_block ?_
  refine J.ent Ent.stars_nil ?_
  refine J_loop (fun i : Bx => Inv i.K i.base i.n i.k ∧ Beg i.K i.base i.all ∧ i.n ≤ i.k ∧ i.k ≤ l.length ∧ Behind E i.C i.Ss i.all)
    (fun i => [(1, T.v), (2, .int .i64 (m : Int)), (7, .pointer (some ⟨p, 0, none⟩)), (8, i.B.v), (9, .int .i64 (i.k : Int))]) (fun i => [kvA p i.K, slc tSl true i.B i.Ss, i.C, slc tDv false T l, F]) (fun i => l.length - i.k)
    ⟨0, newK z, [], 0, [], B0, [SV.nil], stars []⟩ ⟨inv_new z, beg_new z, Nat.zero_le _, Nat.zero_le _, behind_nil⟩ ⟨rfl, rfl, rfl, rfl, rfl, trivial⟩ (Ent.re [2, 1, 0, 3, 4] rfl) ?_
  rintro ⟨k, K, base, n, all, B, Ss, C⟩ ⟨hI, hB, hn, hk, hR⟩
  dsimp only at hI hB hn hk hR ⊢
  have hal := hB.len
  have hnk := hI.g.next
  have hSl := hR.1
  refine J_seq ?_
  refine J_seq ?_
  refine J_region ?_
  refine L_q (Q_move rfl) rfl rfl rfl ?_
  refine L_q (Q_move rfl) rfl rfl rfl ?_
  refine L_q (Q_lenAt 3 rfl rfl) rfl rfl rfl ?_
  refine L_q (Q_lss rfl rfl) rfl rfl rfl ?_
  refine JL_nil ?_
  refine seqQ_normal ?_
  refine J_condD rfl (fun h2 => ?_) (fun h2 => ?_)
  · have hlt : k < l.length := by omega
    have hsq := aseq_ok E p hI (by omega)
    refine J_skip ?_
    refine seqQ_normal ?_
    refine J_seq ?_
    refine J_block ?_
    refine J_seq ?_
    refine J_region ?_
    refine L_q (Q_move rfl) rfl rfl rfl ?_
    refine L_o rfl rfl rfl (O_call [0] [1,2,3,4] hsq rfl rfl ?_)
    rintro _ _ ⟨rfl, rfl⟩
    refine JL.norm ?_
    refine L_q (Q_assign rfl) rfl rfl rfl ?_
    refine JL_nil ?_
    refine seqQ_normal ?_
    refine J_seq ?_
    refine J_seq ?_
    refine J_region ?_
    refine L_q (Q_move rfl) rfl rfl rfl ?_
    refine L_q (Q_move rfl) rfl rfl rfl ?_
    refine L_q (Q_ixAt 3 k rfl rfl rfl rfl hlt rfl) rfl rfl rfl ?_
    refine L_q (Q_ldEAAt 3 k 0 (vs := dvV l[k]) rfl rfl rfl rfl hlt (by decide) rfl) rfl rfl rfl ?_
    refine L_o rfl rfl rfl (O_alloc fun b11 => ?_)
    refine L_s rfl rfl (O_stW 0 rfl rfl rfl rfl ?_)
    refine JL.norm ?_
    refine JL_nil ?_
    refine seqQ_normal ?_
    refine J_seq ?_
    refine J_region ?_
    refine L_q (Q_fa0 rfl) rfl rfl rfl ?_
    refine L_q (Q_ld 0 rfl rfl rfl rfl) rfl rfl rfl ?_
    refine JL_nil ?_
    refine seqQ_normal ?_
    refine J_block ?_
    refine J_seq ?_
    refine J.cut (fun e ρ' L' => e = .normal ∧ ∃ (K2 : Kst) (base2 : List Kv) (n2 : Nat) (all2 : List (List UInt8)), Inv K2 base2 n2 (k + 1) ∧ Beg K2 base2 all2 ∧ n2 ≤ k + 1 ∧ (all2 = all ∨ ∃ x, all2 = all ++ [x]) ∧ envSub [(1, T.v), (2, .int .i64 (m : Int)), (7, .pointer (some ⟨p, 0, none⟩)), (8, B.v), (9, .int .i64 (k : Int)), (10, .int .i64 (nextOf K.g.fs : Int))] ρ' ∧ Ent L' [kvA p K2, slc tSl true B Ss, C, slc tDv false T l, F]) ?_ ?_
    · have hlog : ∀ ch : Chg, ∃ all2, Beg (logK K ch) base all2 ∧ (all2 = all ∨ ∃ x, all2 = all ++ [x]) := fun ch => ⟨_, hB.log hI, by
        split
        · exact .inr ⟨_, rfl⟩
        · exact .inl rfl⟩
      by_cases c0 : l[k].kind = 0
      · have hbg : ∃ all2, Beg (putK K l[k].key l[k].val) base all2 ∧ (all2 = all ∨ ∃ x, all2 = all ++ [x]) := by
          unfold putK
          split
          · exact hlog _
          · exact ⟨all, hB, .inl rfl⟩
        obtain ⟨all2, hB2, ha2⟩ := hbg
        refine J_region ?_
        refine L_q ((Q_eql rfl rfl).as (v' := .bool true) (congrArg Value.bool (decide_eq_true c0))) rfl rfl rfl ?_
        refine L_q (Q_assign rfl) rfl rfl rfl ?_
        refine JL_nil ?_
        refine seqQ_normal ?_
        refine J_condT rfl ?_
        refine J_region ?_
        refine L_q (Q_move rfl) rfl rfl rfl ?_
        refine L_q (Q_fa0 rfl) rfl rfl rfl ?_
        refine L_q (Q_ld 0 rfl rfl rfl rfl) rfl rfl rfl ?_
        refine L_q (Q_fa0 rfl) rfl rfl rfl ?_
        refine L_q (Q_ld 0 rfl rfl rfl rfl) rfl rfl rfl ?_
        refine L_o rfl rfl rfl (O_call [1] [0,2,3,4,5] (aput_ok E p hI (by omega) l[k].key l[k].val) rfl rfl ?_)
        rintro _ _ ⟨rfl, rfl⟩
        refine JL.norm ?_
        refine JL_nil ?_
        refine blockQ_normal ?_
        exact ⟨rfl, _, _, _, _, hI.put _ _, hB2, by omega, ha2, ⟨rfl, rfl, rfl, rfl, rfl, rfl, trivial⟩, Ent.re [0, 2, 3, 4, 5] rfl⟩
      by_cases c1 : l[k].kind = 1
      · have hbg : ∃ all2, Beg (delK K l[k].key) base all2 ∧ (all2 = all ∨ ∃ x, all2 = all ++ [x]) := by
          unfold delK
          split
          · split
            · exact hlog _
            · exact ⟨all, hB, .inl rfl⟩
          · exact ⟨all, hB, .inl rfl⟩
        obtain ⟨all2, hB2, ha2⟩ := hbg
        refine J_region ?_
        refine L_q ((Q_eql rfl rfl).as (v' := .bool false) (congrArg Value.bool (decide_eq_false c0))) rfl rfl rfl ?_
        refine L_q (Q_assign rfl) rfl rfl rfl ?_
        refine JL_nil ?_
        refine seqQ_normal ?_
        refine J_condF rfl ?_
        refine J_seq ?_
        refine J_region ?_
        refine L_q ((Q_eql rfl rfl).as (v' := .bool true) (congrArg Value.bool (decide_eq_true c1))) rfl rfl rfl ?_
        refine L_q (Q_assign rfl) rfl rfl rfl ?_
        refine JL_nil ?_
        refine seqQ_normal ?_
        refine J_condT rfl ?_
        refine J_region ?_
        refine L_q (Q_move rfl) rfl rfl rfl ?_
        refine L_q (Q_fa0 rfl) rfl rfl rfl ?_
        refine L_q (Q_ld 0 rfl rfl rfl rfl) rfl rfl rfl ?_
        refine L_o rfl rfl rfl (O_call [1] [0,2,3,4,5] (adel_ok E p hI (by omega) l[k].key) rfl rfl ?_)
        rintro _ _ ⟨rfl, rfl⟩
        refine JL.norm ?_
        refine JL_nil ?_
        refine blockQ_normal ?_
        exact ⟨rfl, _, _, _, _, hI.del _, hB2, by omega, ha2, ⟨rfl, rfl, rfl, rfl, rfl, rfl, trivial⟩, Ent.re [0, 2, 3, 4, 5] rfl⟩
      by_cases c2 : l[k].kind = 2
      · skip
        refine J_region ?_
        refine L_q ((Q_eql rfl rfl).as (v' := .bool false) (congrArg Value.bool (decide_eq_false c0))) rfl rfl rfl ?_
        refine L_q (Q_assign rfl) rfl rfl rfl ?_
        refine JL_nil ?_
        refine seqQ_normal ?_
        refine J_condF rfl ?_
        refine J_seq ?_
        refine J_region ?_
        refine L_q ((Q_eql rfl rfl).as (v' := .bool false) (congrArg Value.bool (decide_eq_false c1))) rfl rfl rfl ?_
        refine L_q (Q_assign rfl) rfl rfl rfl ?_
        refine JL_nil ?_
        refine seqQ_normal ?_
        refine J_condF rfl ?_
        refine J_seq ?_
        refine J_region ?_
        refine L_q ((Q_eql rfl rfl).as (v' := .bool true) (congrArg Value.bool (decide_eq_true c2))) rfl rfl rfl ?_
        refine L_q (Q_assign rfl) rfl rfl rfl ?_
        refine JL_nil ?_
        refine seqQ_normal ?_
        refine J_condT rfl ?_
        refine J_region ?_
        refine L_q (Q_move rfl) rfl rfl rfl ?_
        refine L_o rfl rfl rfl (O_call [1] [0,2,3,4,5] (async_ok E p hI (by omega)) rfl rfl ?_)
        rintro _ _ ⟨rfl, rfl⟩
        refine JL.norm ?_
        refine JL_nil ?_
        refine blockQ_normal ?_
        exact ⟨rfl, _, _, _, _, hI.sync.mono (by omega), hB.sync, by omega, .inl rfl, ⟨rfl, rfl, rfl, rfl, rfl, rfl, trivial⟩, Ent.re [0, 2, 3, 4, 5] rfl⟩
      by_cases c3 : l[k].kind = 3
      · obtain ⟨base2, n2, hI2, hn2, hbs, _, hnx⟩ := hI.cp l[k].n (by omega)
        refine J_region ?_
        refine L_q ((Q_eql rfl rfl).as (v' := .bool false) (congrArg Value.bool (decide_eq_false c0))) rfl rfl rfl ?_
        refine L_q (Q_assign rfl) rfl rfl rfl ?_
        refine JL_nil ?_
        refine seqQ_normal ?_
        refine J_condF rfl ?_
        refine J_seq ?_
        refine J_region ?_
        refine L_q ((Q_eql rfl rfl).as (v' := .bool false) (congrArg Value.bool (decide_eq_false c1))) rfl rfl rfl ?_
        refine L_q (Q_assign rfl) rfl rfl rfl ?_
        refine JL_nil ?_
        refine seqQ_normal ?_
        refine J_condF rfl ?_
        refine J_seq ?_
        refine J_region ?_
        refine L_q ((Q_eql rfl rfl).as (v' := .bool false) (congrArg Value.bool (decide_eq_false c2))) rfl rfl rfl ?_
        refine L_q (Q_assign rfl) rfl rfl rfl ?_
        refine JL_nil ?_
        refine seqQ_normal ?_
        refine J_condF rfl ?_
        refine J_seq ?_
        refine J_region ?_
        refine L_q ((Q_eql rfl rfl).as (v' := .bool true) (congrArg Value.bool (decide_eq_true c3))) rfl rfl rfl ?_
        refine L_q (Q_assign rfl) rfl rfl rfl ?_
        refine JL_nil ?_
        refine seqQ_normal ?_
        refine J_condT rfl ?_
        refine J_region ?_
        refine L_q (Q_move rfl) rfl rfl rfl ?_
        refine L_q (Q_fa0 rfl) rfl rfl rfl ?_
        refine L_q (Q_ld 0 rfl rfl rfl rfl) rfl rfl rfl ?_
        refine L_o rfl rfl rfl (O_call [1] [0,2,3,4,5] (acp_ok E p hI (by omega) l[k].n) rfl rfl ?_)
        rintro _ _ ⟨rfl, rfl⟩
        refine JL.norm ?_
        refine JL_nil ?_
        refine blockQ_normal ?_
        exact ⟨rfl, _, _, _, _, hI2.mono (by omega), hB.cp l[k].n hI hbs hnx, by omega, .inl rfl, ⟨rfl, rfl, rfl, rfl, rfl, rfl, trivial⟩, Ent.re [0, 2, 3, 4, 5] rfl⟩
      · skip
        refine J_region ?_
        refine L_q ((Q_eql rfl rfl).as (v' := .bool false) (congrArg Value.bool (decide_eq_false c0))) rfl rfl rfl ?_
        refine L_q (Q_assign rfl) rfl rfl rfl ?_
        refine JL_nil ?_
        refine seqQ_normal ?_
        refine J_condF rfl ?_
        refine J_seq ?_
        refine J_region ?_
        refine L_q ((Q_eql rfl rfl).as (v' := .bool false) (congrArg Value.bool (decide_eq_false c1))) rfl rfl rfl ?_
        refine L_q (Q_assign rfl) rfl rfl rfl ?_
        refine JL_nil ?_
        refine seqQ_normal ?_
        refine J_condF rfl ?_
        refine J_seq ?_
        refine J_region ?_
        refine L_q ((Q_eql rfl rfl).as (v' := .bool false) (congrArg Value.bool (decide_eq_false c2))) rfl rfl rfl ?_
        refine L_q (Q_assign rfl) rfl rfl rfl ?_
        refine JL_nil ?_
        refine seqQ_normal ?_
        refine J_condF rfl ?_
        refine J_seq ?_
        refine J_region ?_
        refine L_q ((Q_eql rfl rfl).as (v' := .bool false) (congrArg Value.bool (decide_eq_false c3))) rfl rfl rfl ?_
        refine L_q (Q_assign rfl) rfl rfl rfl ?_
        refine JL_nil ?_
        refine seqQ_normal ?_
        refine J_condF rfl ?_
        refine J_skip ?_
        refine blockQ_normal ?_
        exact ⟨rfl, _, _, _, _, hI.mono (by omega), hB, by omega, .inl rfl, ⟨rfl, rfl, rfl, rfl, rfl, rfl, trivial⟩, Ent.re [1, 2, 3, 4, 5] rfl⟩
    rintro _ ρ' L' ⟨rfl, K2, base2, n2, all2, hI2, hB2, hn2, ha2, hsub, hent⟩
    refine seqQ_normal ?_
    refine J.sub hsub ?_
    refine J.ent hent ?_
    clear hsub hent
    have hsq2 := aseq_ok E p hI2 (by omega)
    have hl2 := hB2.len
    have hnk2 := hI2.g.next
    rcases ha2 with rfl | ⟨x, rfl⟩
    · refine J_seq ?_
      refine J_region ?_
      refine L_q (Q_move rfl) rfl rfl rfl ?_
      refine L_o rfl rfl rfl (O_call [0] [1,2,3,4] hsq2 rfl rfl ?_)
      rintro _ _ ⟨rfl, rfl⟩
      refine JL.norm ?_
      refine L_q (Q_move rfl) rfl rfl rfl ?_
      refine L_q ((Q_gtr rfl rfl).as (v' := .bool false) (congrArg Value.bool (decide_eq_false (by omega)))) rfl rfl rfl ?_
      refine JL_nil ?_
      refine seqQ_normal ?_
      refine J_condF rfl ?_
      refine J_skip ?_
      refine blockQ_normal ?_
      refine seqQ_normal ?_
      refine J_region ?_
      refine L_q (Q_move rfl) rfl rfl rfl ?_
      refine L_q (Q_add rfl rfl (by first | exact IntWalk.i64_in _ (by omega) | exact IntWalk.u8_in _ (by omega) | exact IntWalk.u32_in _ (by omega) | exact IntWalk.u64_in _ (by omega) | rfl)) rfl rfl rfl ?_
      refine L_q (Q_assign rfl) rfl rfl rfl ?_
      refine JL_nil ?_
      exact loopQ_normal ⟨k + 1, K2, base2, n2, all2, B, Ss, C⟩ ⟨hI2, hB2, hn2, hlt, hR⟩ (by show l.length - (k + 1) < l.length - k; omega) ⟨rfl, rfl, rfl, rfl, rfl, trivial⟩ (Ent.refl _)
    · have htr := hB2.tr hI2
      rw [← hl2] at htr
      have htl : K2.t.length ≤ 100 := by
        have h1 := rep_len (fs := []) (s := 0) (base := []) List.Pairwise.nil 0
        have h5 : ∀ i, i ≤ (all ++ [x]).length → (repA (all ++ [x]) i).length ≤ i ∧ Up (repA (all ++ [x]) i) := by
          intro i
          induction i with
          | zero => intro _; exact ⟨Nat.le_refl _, List.Pairwise.nil⟩
          | succ i ih =>
            intro hi
            obtain ⟨a1, a2⟩ := ih (by omega)
            rw [repA_succ (show i < (all ++ [x]).length by omega)]
            exact ⟨by have := chL_len a2 (readC (all ++ [x])[i]); omega, chL_up a2 _⟩
        have := (h5 _ (Nat.le_refl _)).1
        rw [htr]
        omega
      simp only [List.length_append, List.length_singleton] at hl2
      have hrng := arange_ok E p hI2 [] [] 1000
      rw [rngL_all (by decide) (by omega)] at hrng
      refine J_seq ?_
      refine J_region ?_
      refine L_q (Q_move rfl) rfl rfl rfl ?_
      refine L_o rfl rfl rfl (O_call [0] [1,2,3,4] hsq2 rfl rfl ?_)
      rintro _ _ ⟨rfl, rfl⟩
      refine JL.norm ?_
      refine L_q (Q_move rfl) rfl rfl rfl ?_
      refine L_q ((Q_gtr rfl rfl).as (v' := .bool true) (congrArg Value.bool (decide_eq_true (by omega)))) rfl rfl rfl ?_
      refine JL_nil ?_
      refine seqQ_normal ?_
      refine J_condT rfl ?_
      refine J_region ?_
      refine L_q (Q_move rfl) rfl rfl rfl ?_
      refine L_q (Q_move rfl) rfl rfl rfl ?_
      refine L_o rfl rfl rfl (O_call [0] [1,2,3,4] hrng rfl rfl ?_)
      rintro _ _ ⟨S2, rfl, rfl⟩
      refine JL.norm ?_
      refine L_o rfl rfl rfl (O_litP (τ := tSl) (m := 1) (sz := 1) [S2] rfl rfl rfl rfl rfl rfl (by decide) (fun U => ?_))
      refine JL.norm ?_
      refine L_o rfl rfl rfl (O_app (τ := tSl) 3 rfl (fun w h => h.rd 0 rfl) rfl rfl rfl rfl (by simp only [List.length_singleton]; omega) (by decide) (fun B2 => ?_))
      refine JL.norm ?_
      refine L_q (Q_assign rfl) rfl rfl rfl ?_
      refine JL_nil ?_
      refine blockQ_normal ?_
      refine seqQ_normal ?_
      rw [htr]
      refine J.ent ((Ent.re [4, 2, 1, 3, 5, 6] rfl).trans Ent.star_in) ?_
      refine J_region ?_
      refine L_q (Q_move rfl) rfl rfl rfl ?_
      refine L_q (Q_add rfl rfl (by first | exact IntWalk.i64_in _ (by omega) | exact IntWalk.u8_in _ (by omega) | exact IntWalk.u32_in _ (by omega) | exact IntWalk.u64_in _ (by omega) | rfl)) rfl rfl rfl ?_
      refine L_q (Q_assign rfl) rfl rfl rfl ?_
      refine JL_nil ?_
      exact loopQ_normal ⟨k + 1, K2, base2, n2, all ++ [x], B2, Ss ++ [S2], star C (slc tKv true S2 (repA (all ++ [x]) (all ++ [x]).length))⟩ ⟨hI2, hB2, hn2, hlt, hR.app x S2⟩ (by show l.length - (k + 1) < l.length - k; omega) ⟨rfl, rfl, rfl, rfl, rfl, trivial⟩ (Ent.re [1, 2, 0, 3, 4] rfl)
  · have hsq := aseq_ok E p hI (by omega)
    have hu := asure_ok E p (K := K)
    refine J_exit ?_
    refine seqQ_exit ?_
    refine loopQ_exit ?_
    refine blockQ_hit ?_
    refine seqQ_normal ?_
    refine J_seq ?_
    refine J_region ?_
    refine L_q (Q_move rfl) rfl rfl rfl ?_
    refine L_o rfl rfl rfl (O_call [0] [1,2,3,4] hu rfl rfl ?_)
    rintro _ _ ⟨rfl, rfl⟩
    refine JL.norm ?_
    refine L_q (Q_move rfl) rfl rfl rfl ?_
    refine L_o rfl rfl rfl (O_call [0] [1,2,3,4] hsq rfl rfl ?_)
    rintro _ _ ⟨rfl, rfl⟩
    refine JL.norm ?_
    refine L_q (Q_assign rfl) rfl rfl rfl ?_
    refine L_q (Q_assign rfl) rfl rfl rfl ?_
    refine JL_nil ?_
    refine seqQ_normal ?_
    refine J_seq ?_
    refine J_region ?_
    refine L_q (Q_assign rfl) rfl rfl rfl ?_
    refine JL_nil ?_
    refine seqQ_normal ?_
    refine J_seq ?_
    refine J_seq ?_
    refine J_region ?_
    refine L_q (Q_assign rfl) rfl rfl rfl ?_
    refine JL_nil ?_
    refine seqQ_normal ?_
    refine J_block ?_
    refine J_loop (fun j : Nat => j ≤ m) (fun j => [(2, .int .i64 (m : Int)), (7, .pointer (some ⟨p, 0, none⟩)), (8, B.v), (12, .int .i64 ((max K.g.sure K.saved : Nat) : Int)), (13, .int .i64 (nextOf K.g.fs : Int)), (14, .int .u64 ((2 ^ j - 1 : Nat) : Int)), (15, .int .i64 (j : Int))]) (fun _ => [kvA p K, slc tSl true B Ss, C, slc tDv false T l, F]) (fun j => m - j) 0 (Nat.zero_le _) ⟨rfl, rfl, rfl, rfl, rfl, rfl, rfl, trivial⟩ (Ent.refl _) ?_
    intro j hj
    refine J_seq ?_
    refine J_seq ?_
    refine J_region ?_
    refine L_q (Q_move rfl) rfl rfl rfl ?_
    refine L_q (Q_move rfl) rfl rfl rfl ?_
    refine L_q (Q_lss rfl rfl) rfl rfl rfl ?_
    refine JL_nil ?_
    refine seqQ_normal ?_
    refine J_condD rfl (fun h5 => ?_) (fun h5 => ?_)
    · refine J_skip ?_
      refine seqQ_normal ?_
      refine J_seq ?_
      refine J_block ?_
      refine J_region ?_
      refine L_q (Q_move rfl) rfl rfl rfl ?_
      refine L_q (Q_shl rfl rfl (by decide) rfl) rfl rfl rfl ?_
      refine L_q (Q_or rfl rfl (lor_one38 j (by omega))) rfl rfl rfl ?_
      refine L_q (Q_assign rfl) rfl rfl rfl ?_
      refine JL_nil ?_
      refine blockQ_normal ?_
      refine seqQ_normal ?_
      refine J_region ?_
      refine L_q (Q_move rfl) rfl rfl rfl ?_
      refine L_q (Q_add rfl rfl (by first | exact IntWalk.i64_in _ (by omega) | exact IntWalk.u8_in _ (by omega) | exact IntWalk.u32_in _ (by omega) | exact IntWalk.u64_in _ (by omega) | rfl)) rfl rfl rfl ?_
      refine L_q (Q_assign rfl) rfl rfl rfl ?_
      refine JL_nil ?_
      exact loopQ_normal (j + 1) (by show j + 1 ≤ m; omega) (by show m - (j + 1) < m - j; omega) ⟨rfl, rfl, rfl, rfl, rfl, rfl, rfl, trivial⟩ (Ent.refl _)
    · obtain rfl : j = m := by omega
      have h3 : 2 ^ j - 1 < 2 ^ 64 := by have := Nat.pow_le_pow_right (n := 2) (by decide) (show j ≤ 64 by omega); have := Nat.two_pow_pos 64; omega
      obtain ⟨q1, q2, q3⟩ := hB.crash j hI
      have hc := hI.crash (2 ^ j - 1)
      have hcr := acrash_ok E p hI (by omega) (2 ^ j - 1) h3
      have hsq3 := aseq_ok E p hc (by omega)
      have hrng := arange_ok E p hc [] [] 1000
      have htl := hc.len
      generalize crashK K base (2 ^ j - 1) = K3 at *
      have hlt3 : nextOf K3.g.fs < Ss.length := by omega
      have hrdy := hR.2 _ hlt3
      have htl3 : K3.t.length ≤ 100 := by
        have h5 : ∀ i, i ≤ all.length → (repA all i).length ≤ i ∧ Up (repA all i) := by
          intro i
          induction i with
          | zero => intro _; exact ⟨Nat.le_refl _, List.Pairwise.nil⟩
          | succ i ih =>
            intro hi
            obtain ⟨a1, a2⟩ := ih (by omega)
            rw [repA_succ (show i < all.length by omega)]
            exact ⟨by have := chL_len a2 (readC all[i]); omega, chL_up a2 _⟩
        have := (h5 (nextOf K3.g.fs) (by omega)).1
        rw [q1]
        omega
      rw [rngL_all (by decide) (by omega)] at hrng
      rw [← q1] at hrdy
      have hsm := fun S2 => rsame38_ok E C Ss[nextOf K3.g.fs] S2 K3.t hrdy (by omega)
      refine J_exit ?_
      refine seqQ_exit ?_
      refine loopQ_exit ?_
      refine blockQ_hit ?_
      refine seqQ_normal ?_
      refine J_seq ?_
      refine J_region ?_
      refine L_q (Q_move rfl) rfl rfl rfl ?_
      refine L_q (Q_move rfl) rfl rfl rfl ?_
      refine L_o rfl rfl rfl (O_call [0] [1,2,3,4] hcr rfl rfl ?_)
      rintro _ _ ⟨rfl, rfl⟩
      refine JL.norm ?_
      refine JL_nil ?_
      refine seqQ_normal ?_
      refine J_seq ?_
      refine J_region ?_
      refine L_q (Q_move rfl) rfl rfl rfl ?_
      refine L_o rfl rfl rfl (O_call [0] [1,2,3,4] hsq3 rfl rfl ?_)
      rintro _ _ ⟨rfl, rfl⟩
      refine JL.norm ?_
      refine L_q (Q_assign rfl) rfl rfl rfl ?_
      refine JL_nil ?_
      refine seqQ_normal ?_
      refine J_seq ?_
      refine J_drawH [1] [0, 1, 2, 3, 4, 5, 6, 7, 8, 9, 10, 11, 12, 13, 14, 15, 16, 18, 19, 20, 21, 23, 24, 26, 27] (.quiet 0 (.quiet 1 (.quiet 2 (.quiet 3 (.quiet 4 (.quiet 5 (.quiet 6 (.quiet 7 (.quiet 8 (.quiet 9 (.quiet 10 (.quiet 11 (.quiet 12 (.quiet 13 (.quiet 14 (.quiet 15 (.quiet 16 (.quiet 18 (.quiet 19 (.quiet 20 (.quiet 21 (.loud 17 (.loud 22 (.quiet 23 (.quiet 24 (.loud 25 (.quiet 26 (.quiet 27 .done)))))))))))))))))))))))))))) Tryz.mixed (by kernel_rfl) (by kernel_rfl) (by repeat (first | exact retQ_noP | refine seqQ_noP ?_ | refine blockQ_noP ?_ | refine loopQ_noP ?_ | refine scopeQ_noP ?_ | (intro _ _ _ h; cases h.1))) ?_
      refine S_q (Ent.re [1] rfl) rfl (Q_move rfl) rfl rfl rfl ?_
      refine S_q (Ent.re [1] rfl) rfl (Q_move rfl) rfl rfl rfl ?_
      refine S_q (Ent.re [1] rfl) rfl (Q_lenAt 0 rfl rfl) rfl rfl rfl ?_
      refine S_q (Ent.re [1] rfl) rfl (Q_sub rfl rfl (by first | exact IntWalk.i64_in _ (by omega) | exact IntWalk.u8_in _ (by omega) | exact IntWalk.u32_in _ (by omega) | exact IntWalk.u64_in _ (by omega) | rfl)) rfl rfl rfl ?_
      refine S_q (Ent.re [1] rfl) rfl ((Q_eql rfl rfl).as (v' := .bool true) (congrArg Value.bool (decide_eq_true (by omega)))) rfl rfl rfl ?_
      refine S_q (Ent.re [1] rfl) rfl (Q_move rfl) rfl rfl rfl ?_
      refine S_q (Ent.re [1] rfl) rfl (Q_move rfl) rfl rfl rfl ?_
      refine S_q (Ent.re [1] rfl) rfl (Q_move rfl) rfl rfl rfl ?_
      refine S_q (Ent.re [1] rfl) rfl ((Q_geq rfl rfl).as (v' := .bool true) (congrArg Value.bool (decide_eq_true (by omega)))) rfl rfl rfl ?_
      refine S_q (Ent.re [1] rfl) rfl (Q_pickT rfl rfl) rfl rfl rfl ?_
      refine S_q (Ent.re [1] rfl) rfl (Q_move rfl) rfl rfl rfl ?_
      refine S_q (Ent.re [1] rfl) rfl (Q_move rfl) rfl rfl rfl ?_
      refine S_q (Ent.re [1] rfl) rfl (Q_move rfl) rfl rfl rfl ?_
      refine S_q (Ent.re [1] rfl) rfl ((Q_leq rfl rfl).as (v' := .bool true) (congrArg Value.bool (decide_eq_true (by omega)))) rfl rfl rfl ?_
      refine S_q (Ent.re [1] rfl) rfl (Q_pickT rfl rfl) rfl rfl rfl ?_
      refine S_q (Ent.re [1] rfl) rfl (Q_move rfl) rfl rfl rfl ?_
      refine S_q (Ent.re [1] rfl) rfl (Q_move rfl) rfl rfl rfl ?_
      refine S_q (Ent.re [1] rfl) rfl (Q_move rfl) rfl rfl rfl ?_
      refine S_q (Ent.re [1] rfl) rfl (Q_move rfl) rfl rfl rfl ?_
      refine S_q (Ent.re [1] rfl) rfl (Q_ixAt 0 (nextOf K3.g.fs) rfl rfl rfl rfl hlt3 rfl) rfl rfl rfl ?_
      refine S_q (Ent.re [1] rfl) rfl (Q_ldEAt 0 (nextOf K3.g.fs) 0 (v := Ss[nextOf K3.g.fs].v) rfl rfl rfl rfl hlt3 (by decide) rfl) rfl rfl rfl ?_
      refine S_o rfl rfl rfl rfl (O_call [0] [1,2,3,4] hrng rfl rfl ?_)
      (rintro _ _ ⟨S2, rfl, rfl⟩; refine ⟨_, fun _ => ⟨Ent.reN [2] rfl, Ent.refl _⟩, ?_⟩)
      refine JS.norm ?_
      refine S_o rfl rfl rfl rfl (O_call [1,3] [0,2,4,5] (hsm S2) rfl rfl ?_)
      (rintro _ _ ⟨rfl, rfl⟩; refine ⟨_, fun _ => ⟨Ent.reN [3] rfl, Ent.refl _⟩, ?_⟩)
      refine JS.norm ?_
      refine S_q (Ent.re [3] rfl) rfl (Q_pickT rfl rfl) rfl rfl rfl ?_
      refine S_q (Ent.re [3] rfl) rfl (Q_move rfl) rfl rfl rfl ?_
      refine S_o rfl rfl rfl rfl (O_call [] [0,1,2,3,4,5] (awake38_ok E) rfl rfl ?_)
      (rintro _ _ ⟨rfl, rfl⟩; refine ⟨_, fun _ => ⟨Ent.reN [3] rfl, Ent.refl _⟩, ?_⟩)
      refine JS.norm ?_
      refine S_q (Ent.re [3] rfl) rfl (Q_pickT rfl rfl) rfl rfl rfl ?_
      refine S_q (Ent.re [3] rfl) rfl (Q_assign rfl) rfl rfl rfl ?_
      refine S_nil ?_
      refine seqQ_normal ?_
      refine J_ret ?_
      exact retQ_ret _ [] (.cons (RV_tmp rfl) .nil) ⟨rfl, rfl⟩ (Ent.re [5] rfl)
end Go.Proofs
/- The laws over a store, from their arguments' readings. -/
set_option autoImplicit false
namespace Go.Proofs
open Go.SL Go.RowKit Go.Proofs.Bt
def lsDv : List Leaf := [.int .i64, .int .i64, .str, .str, .int .u64]
theorem dv_in {vs : List Value} (h : LeafsOk lsDv vs) : ∃ d : Dv, vs = tDv.enc d ∧ d.keep < 2 ^ 64 := by
  obtain ⟨a, r, rfl, _, h⟩ := leafs_int h
  obtain ⟨b, r, rfl, _, h⟩ := leafs_int h
  obtain ⟨s, r, rfl, _, h⟩ := leafs_str h
  obtain ⟨t, r, rfl, _, h⟩ := leafs_str h
  obtain ⟨c, r, rfl, hc, h⟩ := leafs_int h
  obtain rfl := leafs_nil h
  obtain ⟨m, rfl, hm⟩ := wf_u64 hc
  exact ⟨⟨a, b, s, t, m⟩, rfl, hm⟩
theorem dvs_in {W : World} {v : Value} (h : InRows W lsDv v) : ∃ (S : SV) (l : List Dv), v = S.v ∧ (∀ d ∈ l, d.keep < 2 ^ 64) ∧ ∀ g, slc tDv false S l W g := by
  obtain ⟨S, l, h1, _, _, h2, h3⟩ := h.slc tDv (ok := fun d => d.keep < 2 ^ 64) (fun r hr => by obtain ⟨d, h1, h2⟩ := dv_in hr; exact ⟨d, h1, h2⟩)
  exact ⟨S, l, h1, h2, h3⟩
theorem knone_calls (W : World) (v0 : Value) (h : InStruct lsDv v0) : Calls Tryz.prog 6 #[v0] W fun e w' => e = .returned (.bool true) ∧ Below W.heap.size W w' := by
  obtain ⟨vs, rfl, hl⟩ := h
  obtain ⟨d, rfl, _⟩ := dv_in hl
  exact law_calls (knone_ok W d) (fun v L h => h.1) (by simp)
theorem krefused_calls (W : World) (v0 v1 : Value) (h0 : ∃ n, v0 = .int .i64 n ∧ (Lit.int .i64 n).wf = true) (h : InRows W lsDv v1) : Calls Tryz.prog 5 #[v0, v1] W fun e w' => e = .returned (.bool true) ∧ Below W.heap.size W w' := by
  obtain ⟨z, rfl, _⟩ := h0
  obtain ⟨S, l, rfl, hk, h2⟩ := dvs_in h
  exact law_calls (krefused_ok W z S l) (fun v L h => h.1) (by simpa using h2)
theorem ksure_calls (W : World) (v0 v1 v2 : Value) (h0 : ∃ n, v0 = .int .i64 n ∧ (Lit.int .i64 n).wf = true) (h : InRows W lsDv v1) (h1 : ∃ n, v2 = .int .u64 n ∧ (Lit.int .u64 n).wf = true) : Calls Tryz.prog 4 #[v0, v1, v2] W fun e w' => e = .returned (.bool true) ∧ Below W.heap.size W w' := by
  obtain ⟨z, rfl, _⟩ := h0
  obtain ⟨S, l, rfl, hk, h2⟩ := dvs_in h
  obtain ⟨n, rfl, hn⟩ := h1
  obtain ⟨m, rfl, hm⟩ := wf_u64 hn
  exact law_calls (ksure38_ok W z S l m hm hk) (fun v L h => h.1) (by simpa using h2)
theorem kbegins_calls (W : World) (v0 v1 v2 : Value) (h0 : ∃ n, v0 = .int .i64 n ∧ (Lit.int .i64 n).wf = true) (h : InRows W lsDv v1) (h1 : ∃ n, v2 = .int .i64 n ∧ (Lit.int .i64 n).wf = true) : Calls Tryz.prog 3 #[v0, v1, v2] W fun e w' => e = .returned (.bool true) ∧ Below W.heap.size W w' := by
  obtain ⟨z, rfl, _⟩ := h0
  obtain ⟨S, l, rfl, hk, h2⟩ := dvs_in h
  obtain ⟨n, rfl, _⟩ := h1
  exact law_calls (kbegins_ok W z S l n) (fun v L h => h.1) (by simpa using h2)
end Go.Proofs
