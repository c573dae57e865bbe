/- A pipe's frames, written and read; numbers looked up. -/
import Derived.Test.YtmmkepghmmbppaaPipeP
set_option autoImplicit false
namespace Go.Proofs
open Go.SL
theorem or_8 (n b : Nat) (hb : b < 256) : (n * 2 ^ 8 ||| b) = n * 256 + b := by
  have h := Nat.shiftLeft_add_eq_or_of_lt (i := 8) (b := b) (by simpa using hb) n
  rw [Nat.shiftLeft_eq] at h
  rw [← h]
theorem pow_le {k : Nat} (h : k < 4) : 256 ^ k ≤ 16777216 := Nat.le_trans (Nat.pow_le_pow_right (by decide) (show k ≤ 3 by omega)) (by decide)
def posZ (l : List Int) (z : Int) : Nat := l.findIdx fun x => decide (z ≤ x)
theorem posZ_le (l : List Int) (z : Int) : posZ l z ≤ l.length := List.findIdx_le_length
theorem posZ_lt {l : List Int} {z : Int} {j : Nat} (hj : j < l.length) (h : j < posZ l z) : l[j] < z := by
  have h2 := List.not_of_lt_findIdx h
  have h3 : ¬ z ≤ l[j] := by simpa using h2
  omega
theorem posZ_ge {l : List Int} {z : Int} {j : Nat} (hs : l.Pairwise (· < ·)) (hj : j < l.length) (h : posZ l z ≤ j) : z ≤ l[j] := by
  have hp : posZ l z < l.length := by omega
  have h1 : z ≤ l[posZ l z] := by
    have := List.findIdx_getElem (p := fun x : Int => decide (z ≤ x)) (xs := l) (w := hp)
    exact of_decide_eq_true this
  rcases Nat.eq_or_lt_of_le h with e | h
  · subst e; exact h1
  · have := List.pairwise_iff_getElem.1 hs (posZ l z) j hp hj h
    omega
theorem memZ_eq {l : List Int} {z : Int} (hs : l.Pairwise (· < ·)) : decide (z ∈ l) = if h : posZ l z < l.length then decide (l[posZ l z] = z) else false := by
  have key : z ∈ l ↔ ∃ h : posZ l z < l.length, l[posZ l z] = z := by
    constructor
    · intro hz
      obtain ⟨j, hj, he⟩ := List.getElem_of_mem hz
      have hp : posZ l z ≤ j := by
        rcases Nat.lt_or_ge j (posZ l z) with h2 | h2
        · have := posZ_lt hj h2; omega
        · exact h2
      have hpl : posZ l z < l.length := by omega
      refine ⟨hpl, ?_⟩
      have h1 := posZ_ge hs hpl (Nat.le_refl _)
      rcases Nat.eq_or_lt_of_le hp with e | h3
      · simp only [e]; exact he
      · have := List.pairwise_iff_getElem.1 hs (posZ l z) j hpl hj h3
        omega
    · rintro ⟨h, h2⟩
      rw [← h2]; exact List.getElem_mem h
  split
  · rename_i h
    exact decide_eq_decide.2 ⟨fun h2 => (key.1 h2).2, fun h2 => key.2 ⟨h, h2⟩⟩
  · rename_i h
    exact decide_eq_false fun h2 => h (key.1 h2).1
theorem readT_len (n : Nat) : ∀ (s : By) (l : List By), s.length ≤ n → readT s = some l → ∀ x ∈ l, x.length ≤ s.length := by
  induction n with
  | zero =>
    intro s l hs h
    obtain rfl : s = [] := List.eq_nil_of_length_eq_zero (by omega)
    rw [readT_nil] at h
    obtain rfl := Option.some.inj h
    simp
  | succ n ih =>
    intro s l hs h x hx
    by_cases e : s = []
    · subst e
      rw [readT_nil] at h
      obtain rfl := Option.some.inj h
      cases hx
    · cases hn : nextT s with
      | none => rw [readT_none e hn] at h; cases h
      | some p =>
        obtain ⟨t, r⟩ := p
        rw [readT_some e hn] at h
        have hlt := nextT_lt hn
        cases hr : readT r with
        | none => rw [hr] at h; cases h
        | some m =>
          rw [hr] at h
          obtain rfl := Option.some.inj h
          rcases List.mem_cons.1 hx with rfl | hx
          · exact hlt.2
          · have := ih r m (by omega) hr x hx; omega
theorem readL_len (s : By) : ∀ x ∈ readL s, x.length ≤ s.length := by
  intro x hx
  unfold readL at hx
  cases h : readT s with
  | none => rw [h] at hx; simp at hx
  | some l => rw [h] at hx; exact readT_len s.length s l (Nat.le_refl _) h x hx
attribute [local irreducible] J JL QOp JOp seqQ blockQ loopQ retQ slc cel hex star pur stars Does RV Ent pAt scopeQ
theorem pfour_ok (E : World) (n : Nat) : Does Try.prog E 22 [.int .i64 (n : Int)] [] fun v L => v = str (four n) ∧ L = [] := by
  refine Does.of Try.func22 rfl Try.ntmps22 rfl rfl fun F => ?_
  refine J.norm ?_
  refine J_seq ?_
  refine J_region ?_
  refine L_q (Q_assign rfl) rfl rfl rfl ?_
  refine JL_nil ?_
  refine seqQ_normal ?_
  refine J_seq ?_
  refine J_region ?_
  refine L_q (Q_move rfl) rfl rfl rfl ?_
  refine L_q (Q_shrZ n 24 rfl rfl rfl rfl (by decide)) rfl rfl rfl ?_
  refine L_q (Q_cvtN (n / 2 ^ 24) rfl rfl) rfl rfl rfl ?_
  refine L_q (Q_move rfl) rfl rfl rfl ?_
  refine L_q (Q_shrZ n 16 rfl rfl rfl rfl (by decide)) rfl rfl rfl ?_
  refine L_q (Q_cvtN (n / 2 ^ 16) rfl rfl) rfl rfl rfl ?_
  refine L_q (Q_move rfl) rfl rfl rfl ?_
  refine L_q (Q_shrZ n 8 rfl rfl rfl rfl (by decide)) rfl rfl rfl ?_
  refine L_q (Q_cvtN (n / 2 ^ 8) rfl rfl) rfl rfl rfl ?_
  refine L_q (Q_move rfl) rfl rfl rfl ?_
  refine L_q (Q_cvtN n rfl rfl) rfl rfl rfl ?_
  refine L_o rfl rfl rfl (O_litP (τ := tB) (m := 4) (sz := 1) (four n) rfl rfl rfl rfl rfl rfl (by decide) (fun S => ?_))
  refine JL.norm ?_
  refine L_q (Q_b2s tB_enc (fun w h => h.rd 0 rfl) rfl) rfl rfl rfl ?_
  refine L_q (Q_assign rfl) rfl rfl rfl ?_
  refine JL_nil ?_
  refine seqQ_normal ?_
  refine J_ret ?_
  exact retQ_ret _ [] (.cons (RV_tmp rfl) .nil) ⟨rfl, rfl⟩ (Ent.re [1] rfl)
theorem pnum_ok (E : World) (s : By) (hs : s.length ≤ 1000000) : Does Try.prog E 39 [str s] [] fun v L => v = .int .i64 (num s) ∧ L = [] := by
  refine Does.of Try.func39 rfl Try.ntmps39 rfl rfl fun F => ?_
  refine J.norm ?_
  refine J_seq ?_
  refine J_region ?_
  refine L_q (Q_assign rfl) rfl rfl rfl ?_
  refine JL_nil ?_
  refine seqQ_normal ?_
  refine J_seq ?_
  refine J_seq ?_
  refine J_region ?_
  refine L_q (Q_move rfl) rfl rfl rfl ?_
  refine L_q (Q_slen rfl) rfl rfl rfl ?_
  refine L_q (Q_neq rfl rfl) rfl rfl rfl ?_
  refine JL_nil ?_
  refine seqQ_normal ?_
  refine J_condD rfl (fun h => ?_) (fun h => ?_)
  · rw [show num s = -1 by unfold num; rw [if_neg (by omega)]]
    refine J_seq ?_
    refine J_region ?_
    refine L_q (Q_assign rfl) rfl rfl rfl ?_
    refine JL_nil ?_
    refine seqQ_normal ?_
    refine J_ret ?_
    refine seqQ_ret ?_
    exact retQ_ret _ [] (.cons (RV_tmp rfl) .nil) ⟨rfl, rfl⟩ (Ent.refl _)
  have h4 : s.length = 4 := by omega
  rw [show num s = (be s : Int) by unfold num; rw [if_pos h4]]
  refine J_skip ?_
  refine seqQ_normal ?_
  refine J_seq ?_
  refine J_region ?_
  refine L_q (Q_assign rfl) rfl rfl rfl ?_
  refine JL_nil ?_
  refine seqQ_normal ?_
  refine J_seq ?_
  refine J_seq ?_
  refine J_region ?_
  refine L_q (Q_move rfl) rfl rfl rfl ?_
  refine L_o rfl rfl rfl (O_s2b tB_enc rfl rfl (by omega) (fun S => ?_))
  refine JL.norm ?_
  refine L_q (Q_lenAt 0 rfl rfl) rfl rfl rfl ?_
  refine L_q (Q_move rfl) rfl rfl rfl ?_
  refine JL_nil ?_
  refine seqQ_normal ?_
  refine J_block ?_
  refine J_loop (fun k => k ≤ s.length) (fun k => [(3, .int .i64 (be (s.take k) : Int)), (10, S.v), (11, .int .i64 (s.length : Int)), (12, .int .i64 (k : Int))])
    (fun _ => [slc tB true S s, F]) (fun k => s.length - k) 0 (by omega) ⟨rfl, rfl, rfl, rfl, trivial⟩ (Ent.refl _) ?_
  intro k hk
  refine J_seq ?_
  refine J_region ?_
  refine L_q (Q_lss rfl rfl) rfl rfl rfl ?_
  refine JL_nil ?_
  refine seqQ_normal ?_
  refine J_seq ?_
  refine J_condD rfl (fun h2 => ?_) (fun h2 => ?_)
  · have hlt : k < s.length := by omega
    have hb := be_lt4 (s.take k) k (by simp; omega)
    have hp := pow_le (show k < 4 by omega)
    have hs1 : be (s.take (k + 1)) = be (s.take k) * 256 + s[k].toNat := by rw [List.take_succ_eq_append_getElem hlt, be_snoc]
    have hu := s[k].toNat_lt
    generalize be (s.take k) = n at *
    refine J_skip ?_
    refine seqQ_normal ?_
    refine J_seq ?_
    refine J_block ?_
    refine J_seq ?_
    refine J_region ?_
    refine L_q (Q_ixAt 0 k rfl rfl rfl rfl hlt rfl) rfl rfl rfl ?_
    refine L_q (Q_ldEAt 0 k 0 (v := .int .u8 (s[k].toNat : Int)) rfl rfl rfl rfl hlt (by decide) rfl) rfl rfl rfl ?_
    refine L_q (Q_assign rfl) rfl rfl rfl ?_
    refine JL_nil ?_
    refine seqQ_normal ?_
    refine J_region ?_
    refine L_q (Q_move rfl) rfl rfl rfl ?_
    refine L_q (Q_shlZ n 8 rfl rfl rfl rfl (by decide) (by omega)) rfl rfl rfl ?_
    refine L_q (Q_move rfl) rfl rfl rfl ?_
    refine L_q (Q_cvt rfl (by first | exact IntWalk.i64_in _ (by omega) | exact IntWalk.u8_in _ (by omega) | exact IntWalk.u32_in _ (by omega) | exact IntWalk.u64_in _ (by omega) | rfl)) rfl rfl rfl ?_
    refine L_q ((Q_orZ (n * 2 ^ 8) s[k].toNat rfl rfl rfl rfl (by omega) (by omega)).as (v' := .int .i64 (be (s.take (k + 1)) : Int)) (by rw [or_8 n _ (by omega), hs1])) rfl rfl rfl ?_
    refine L_q (Q_assign rfl) rfl rfl rfl ?_
    refine JL_nil ?_
    refine blockQ_normal ?_
    refine seqQ_normal ?_
    refine J_region ?_
    refine L_q (Q_add rfl rfl (by first | exact IntWalk.i64_in _ (by omega) | exact IntWalk.u8_in _ (by omega) | exact IntWalk.u32_in _ (by omega) | exact IntWalk.u64_in _ (by omega) | rfl)) rfl rfl rfl ?_
    refine L_q (Q_move rfl) rfl rfl rfl ?_
    refine JL_nil ?_
    exact loopQ_normal (k + 1) hlt (by omega) ⟨rfl, rfl, rfl, rfl, trivial⟩ (Ent.refl _)
  · obtain rfl : k = s.length := by omega
    rw [List.take_length]
    refine J_exit ?_
    refine seqQ_exit ?_
    refine loopQ_exit ?_
    refine blockQ_hit ?_
    refine seqQ_normal ?_
    refine J_seq ?_
    refine J_region ?_
    refine L_q (Q_move rfl) rfl rfl rfl ?_
    refine L_q (Q_assign rfl) rfl rfl rfl ?_
    refine JL_nil ?_
    refine seqQ_normal ?_
    refine J_ret ?_
    exact retQ_ret _ [] (.cons (RV_tmp rfl) .nil) ⟨rfl, rfl⟩ (Ent.re [1] rfl)
theorem pread_ok (E : World) (s : By) (hs : s.length ≤ 100000) : Does Try.prog E 23 [str s] [] fun v L => v = .tuple #[.int .i64 (readP s).1, .int .i64 (readP s).2.1, str (readP s).2.2.1, .int .i64 (readP s).2.2.2] ∧ L = [] := by
  have hn := next_ok E s (by omega)
  have hr : readP s = if (recNext s).2.2 ≠ 0 then (0, 0, [], (recNext s).2.2) else if (recNext s).2.1 ≠ s.length ∨ readE (recNext s).1 ≠ 0 then (0, 0, [], 3) else partsP (readL (recNext s).1) := rfl
  unfold recV at hn
  have hok := @recNext_ok s
  rcases hx : recNext s with ⟨t, n, e⟩
  rw [hx] at hn hr hok
  dsimp only at hn hr hok
  refine Does.of Try.func23 rfl Try.ntmps23 rfl rfl fun F => ?_
  refine J.norm ?_
  refine J_seq ?_
  refine J_region ?_
  refine L_q (Q_assign rfl) rfl rfl rfl ?_
  refine L_q (Q_assign rfl) rfl rfl rfl ?_
  refine L_q (Q_assign rfl) rfl rfl rfl ?_
  refine L_q (Q_assign rfl) rfl rfl rfl ?_
  refine JL_nil ?_
  refine seqQ_normal ?_
  refine J_seq ?_
  by_cases he : e ≠ 0
  · rw [if_pos he] at hr
    rw [hr]
    refine J_region ?_
    refine L_q (Q_move rfl) rfl rfl rfl ?_
    refine L_o rfl rfl rfl (O_call [] [0] hn rfl rfl ?_)
    rintro _ _ ⟨rfl, rfl⟩
    refine JL.norm ?_
    refine L_q (Q_move rfl) rfl rfl rfl ?_
    refine L_q (Q_extract (v := str t) rfl rfl) rfl rfl rfl ?_
    refine L_q (Q_extract (v := .int .i64 (n : Int)) rfl rfl) rfl rfl rfl ?_
    refine L_q (Q_extract (v := .int .i64 e) rfl rfl) rfl rfl rfl ?_
    refine L_q (Q_assign rfl) rfl rfl rfl ?_
    refine L_q (Q_assign rfl) rfl rfl rfl ?_
    refine L_q (Q_assign rfl) rfl rfl rfl ?_
    refine JL_nil ?_
    refine seqQ_normal ?_
    refine J_seq ?_
    refine J_seq ?_
    refine J_region ?_
    refine L_q (Q_move rfl) rfl rfl rfl ?_
    refine L_q ((Q_neq rfl rfl).as (v' := .bool true) (congrArg Value.bool (decide_eq_true he))) rfl rfl rfl ?_
    refine JL_nil ?_
    refine seqQ_normal ?_
    refine J_condT rfl ?_
    refine J_seq ?_
    refine J_region ?_
    refine L_q (Q_move rfl) rfl rfl rfl ?_
    refine L_q (Q_assign rfl) rfl rfl rfl ?_
    refine L_q (Q_assign rfl) rfl rfl rfl ?_
    refine L_q (Q_assign rfl) rfl rfl rfl ?_
    refine L_q (Q_assign rfl) rfl rfl rfl ?_
    refine JL_nil ?_
    refine seqQ_normal ?_
    refine J_ret ?_
    refine seqQ_ret ?_
    exact retQ_ret _ [] (.cons (RV_tmp rfl) (.cons (RV_tmp rfl) (.cons (RV_tmp rfl) (.cons (RV_tmp rfl) .nil)))) ⟨rfl, rfl⟩ (Ent.refl _)
  obtain rfl : e = 0 := Classical.not_not.1 he
  clear he
  have hok := hok rfl
  rw [if_neg (by simp)] at hr
  refine J_region ?_
  refine L_q (Q_move rfl) rfl rfl rfl ?_
  refine L_o rfl rfl rfl (O_call [] [0] hn rfl rfl ?_)
  rintro _ _ ⟨rfl, rfl⟩
  refine JL.norm ?_
  refine L_q (Q_move rfl) rfl rfl rfl ?_
  refine L_q (Q_extract (v := str t) rfl rfl) rfl rfl rfl ?_
  refine L_q (Q_extract (v := .int .i64 (n : Int)) rfl rfl) rfl rfl rfl ?_
  refine L_q (Q_extract (v := .int .i64 0) rfl rfl) rfl rfl rfl ?_
  refine L_q (Q_assign rfl) rfl rfl rfl ?_
  refine L_q (Q_assign rfl) rfl rfl rfl ?_
  refine L_q (Q_assign rfl) rfl rfl rfl ?_
  refine JL_nil ?_
  refine seqQ_normal ?_
  refine J_seq ?_
  refine J_seq ?_
  refine J_region ?_
  refine L_q (Q_move rfl) rfl rfl rfl ?_
  refine L_q ((Q_neq rfl rfl).as (v' := .bool false) rfl) rfl rfl rfl ?_
  refine JL_nil ?_
  refine seqQ_normal ?_
  refine J_condF rfl ?_
  refine J_skip ?_
  refine seqQ_normal ?_
  refine J_seq ?_
  refine J_region ?_
  refine L_q (Q_move rfl) rfl rfl rfl ?_
  refine L_o rfl rfl rfl (O_call [] [0] (wread_ok E t (by omega)) rfl rfl ?_)
  rintro _ _ ⟨S, rfl, rfl⟩
  refine JL.norm ?_
  refine L_q (Q_move rfl) rfl rfl rfl ?_
  refine L_q (Q_extract (v := S.v) rfl rfl) rfl rfl rfl ?_
  refine L_q (Q_extract (v := .int .i64 (readE t)) rfl rfl) rfl rfl rfl ?_
  refine L_q (Q_assign rfl) rfl rfl rfl ?_
  refine L_q (Q_assign rfl) rfl rfl rfl ?_
  refine JL_nil ?_
  refine seqQ_normal ?_
  refine J_seq ?_
  refine J_seq ?_
  by_cases hb : n ≠ s.length ∨ readE t ≠ 0
  · rw [if_pos hb] at hr
    rw [hr]
    by_cases h1 : n ≠ s.length
    · skip
      refine J_region ?_
      refine L_q (Q_move rfl) rfl rfl rfl ?_
      refine L_q (Q_move rfl) rfl rfl rfl ?_
      refine L_q (Q_slen rfl) rfl rfl rfl ?_
      refine L_q ((Q_neq rfl rfl).as (v' := .bool true) (congrArg Value.bool (decide_eq_true (by omega)))) rfl rfl rfl ?_
      refine L_q (Q_move rfl) rfl rfl rfl ?_
      refine L_n rfl rfl rfl ?_
      refine L_n rfl rfl rfl ?_
      refine L_q (Q_pickT rfl rfl) rfl rfl rfl ?_
      refine L_q (Q_move rfl) rfl rfl rfl ?_
      refine L_n rfl rfl rfl ?_
      refine L_n rfl rfl rfl ?_
      refine L_n rfl rfl rfl ?_
      refine L_q (Q_pickT rfl rfl) rfl rfl rfl ?_
      refine JL_nil ?_
      refine seqQ_normal ?_
      refine J_condT rfl ?_
      refine J_seq ?_
      refine J_region ?_
      refine L_q (Q_assign rfl) rfl rfl rfl ?_
      refine L_q (Q_assign rfl) rfl rfl rfl ?_
      refine L_q (Q_assign rfl) rfl rfl rfl ?_
      refine L_q (Q_assign rfl) rfl rfl rfl ?_
      refine JL_nil ?_
      refine seqQ_normal ?_
      refine J_ret ?_
      refine seqQ_ret ?_
      exact retQ_ret _ [] (.cons (RV_tmp rfl) (.cons (RV_tmp rfl) (.cons (RV_tmp rfl) (.cons (RV_tmp rfl) .nil)))) ⟨rfl, rfl⟩ (Ent.re [1] rfl)
    · have h2 := hb.resolve_left h1
      refine J_region ?_
      refine L_q (Q_move rfl) rfl rfl rfl ?_
      refine L_q (Q_move rfl) rfl rfl rfl ?_
      refine L_q (Q_slen rfl) rfl rfl rfl ?_
      refine L_q ((Q_neq rfl rfl).as (v' := .bool false) (congrArg Value.bool (decide_eq_false (by omega)))) rfl rfl rfl ?_
      refine L_q (Q_move rfl) rfl rfl rfl ?_
      refine L_q (Q_move rfl) rfl rfl rfl ?_
      refine L_q ((Q_neq rfl rfl).as (v' := .bool true) (congrArg Value.bool (decide_eq_true h2))) rfl rfl rfl ?_
      refine L_q (Q_pickF rfl rfl) rfl rfl rfl ?_
      refine L_q (Q_move rfl) rfl rfl rfl ?_
      refine L_n rfl rfl rfl ?_
      refine L_n rfl rfl rfl ?_
      refine L_n rfl rfl rfl ?_
      refine L_q (Q_pickT rfl rfl) rfl rfl rfl ?_
      refine JL_nil ?_
      refine seqQ_normal ?_
      refine J_condT rfl ?_
      refine J_seq ?_
      refine J_region ?_
      refine L_q (Q_assign rfl) rfl rfl rfl ?_
      refine L_q (Q_assign rfl) rfl rfl rfl ?_
      refine L_q (Q_assign rfl) rfl rfl rfl ?_
      refine L_q (Q_assign rfl) rfl rfl rfl ?_
      refine JL_nil ?_
      refine seqQ_normal ?_
      refine J_ret ?_
      refine seqQ_ret ?_
      exact retQ_ret _ [] (.cons (RV_tmp rfl) (.cons (RV_tmp rfl) (.cons (RV_tmp rfl) (.cons (RV_tmp rfl) .nil)))) ⟨rfl, rfl⟩ (Ent.re [1] rfl)
  rw [if_neg hb] at hr
  simp only [ne_eq, not_or, Classical.not_not] at hb
  have hle : ∀ l, readL t = l → ∀ x ∈ l, x.length ≤ 4096 := by
    rintro _ rfl x hx
    exact Nat.le_trans (readL_len t x hx) hok.1
  generalize readL t = l at *
  by_cases h3 : l.length ≠ 3
  · rw [partsP_ok h3] at hr
    rw [hr]
    refine J_region ?_
    refine L_q (Q_move rfl) rfl rfl rfl ?_
    refine L_q (Q_move rfl) rfl rfl rfl ?_
    refine L_q (Q_slen rfl) rfl rfl rfl ?_
    refine L_q ((Q_neq rfl rfl).as (v' := .bool false) (congrArg Value.bool (decide_eq_false (by omega)))) rfl rfl rfl ?_
    refine L_q (Q_move rfl) rfl rfl rfl ?_
    refine L_q (Q_move rfl) rfl rfl rfl ?_
    refine L_q ((Q_neq rfl rfl).as (v' := .bool false) (congrArg Value.bool (decide_eq_false (by omega)))) rfl rfl rfl ?_
    refine L_q (Q_pickF rfl rfl) rfl rfl rfl ?_
    refine L_q (Q_move rfl) rfl rfl rfl ?_
    refine L_q (Q_move rfl) rfl rfl rfl ?_
    refine L_q (Q_lenAt 0 rfl rfl) rfl rfl rfl ?_
    refine L_q ((Q_neq rfl rfl).as (v' := .bool true) (congrArg Value.bool (decide_eq_true (by omega)))) rfl rfl rfl ?_
    refine L_q (Q_pickF rfl rfl) rfl rfl rfl ?_
    refine JL_nil ?_
    refine seqQ_normal ?_
    refine J_condT rfl ?_
    refine J_seq ?_
    refine J_region ?_
    refine L_q (Q_assign rfl) rfl rfl rfl ?_
    refine L_q (Q_assign rfl) rfl rfl rfl ?_
    refine L_q (Q_assign rfl) rfl rfl rfl ?_
    refine L_q (Q_assign rfl) rfl rfl rfl ?_
    refine JL_nil ?_
    refine seqQ_normal ?_
    refine J_ret ?_
    refine seqQ_ret ?_
    exact retQ_ret _ [] (.cons (RV_tmp rfl) (.cons (RV_tmp rfl) (.cons (RV_tmp rfl) (.cons (RV_tmp rfl) .nil)))) ⟨rfl, rfl⟩ (Ent.re [1] rfl)
  refine J_region ?_
  refine L_q (Q_move rfl) rfl rfl rfl ?_
  refine L_q (Q_move rfl) rfl rfl rfl ?_
  refine L_q (Q_slen rfl) rfl rfl rfl ?_
  refine L_q ((Q_neq rfl rfl).as (v' := .bool false) (congrArg Value.bool (decide_eq_false (by omega)))) rfl rfl rfl ?_
  refine L_q (Q_move rfl) rfl rfl rfl ?_
  refine L_q (Q_move rfl) rfl rfl rfl ?_
  refine L_q ((Q_neq rfl rfl).as (v' := .bool false) (congrArg Value.bool (decide_eq_false (by omega)))) rfl rfl rfl ?_
  refine L_q (Q_pickF rfl rfl) rfl rfl rfl ?_
  refine L_q (Q_move rfl) rfl rfl rfl ?_
  refine L_q (Q_move rfl) rfl rfl rfl ?_
  refine L_q (Q_lenAt 0 rfl rfl) rfl rfl rfl ?_
  refine L_q ((Q_neq rfl rfl).as (v' := .bool false) (congrArg Value.bool (decide_eq_false (by omega)))) rfl rfl rfl ?_
  refine L_q (Q_pickF rfl rfl) rfl rfl rfl ?_
  refine JL_nil ?_
  refine seqQ_normal ?_
  refine J_condF rfl ?_
  refine J_skip ?_
  refine seqQ_normal ?_
  refine J_seq ?_
  obtain ⟨a, b, c, rfl⟩ : ∃ a b c, l = [a, b, c] := by
    match l, h3 with
    | [a, b, c], _ => exact ⟨a, b, c, rfl⟩
    | [], h => exact absurd (by decide) h
    | [_], h => exact absurd (by simp) h
    | [_, _], h => exact absurd (by simp) h
    | _ :: _ :: _ :: _ :: r, h => exact absurd (by simp) h
  have hlen := hle [a, b, c] rfl
  have na := pnum_ok E a (by have := hlen a (by simp); omega)
  have nb := pnum_ok E b (by have := hlen b (by simp); omega)
  have la := hlen a (by simp)
  have lc := hlen c (by simp)
  have hpp : partsP [a, b, c] = if num b < 0 ∨ (num a < 0 ∧ a ++ c ≠ []) then (0, 0, [], 3) else (num a, num b, c, 0) := rfl
  rw [hpp] at hr
  generalize num a = za at *
  generalize num b = zb at *
  refine J_drawH [0] [0, 1, 2, 4, 5, 6, 8, 9] (.quiet 0 (.quiet 1 (.quiet 2 (.quiet 4 (.quiet 5 (.quiet 6 (.loud 3 (.loud 7 (.quiet 8 (.quiet 9 .done)))))))))) Try.mixed (by kernel_rfl) (by kernel_rfl) (by repeat (first | exact retQ_noP | refine seqQ_noP ?_ | refine blockQ_noP ?_ | refine loopQ_noP ?_ | refine scopeQ_noP ?_ | (intro _ _ _ h; cases h.1))) ?_
  refine S_q (Ent.re [0] rfl) rfl (Q_move rfl) rfl rfl rfl ?_
  refine S_q (Ent.re [0] rfl) rfl (Q_ixAt 0 0 rfl rfl rfl rfl (by simp) rfl) rfl rfl rfl ?_
  refine S_q (Ent.re [0] rfl) rfl (Q_ldEAt 0 0 0 (v := str a) rfl rfl rfl rfl (by simp) (by decide) rfl) rfl rfl rfl ?_
  refine S_q (Ent.re [0] rfl) rfl (Q_move rfl) rfl rfl rfl ?_
  refine S_q (Ent.re [0] rfl) rfl (Q_ixAt 0 1 rfl rfl rfl rfl (by simp) rfl) rfl rfl rfl ?_
  refine S_q (Ent.re [0] rfl) rfl (Q_ldEAt 0 1 0 (v := str b) rfl rfl rfl rfl (by simp) (by decide) rfl) rfl rfl rfl ?_
  refine S_o rfl rfl rfl rfl (O_call [] [0,1] na rfl rfl ?_)
  (rintro _ _ ⟨rfl, rfl⟩; refine ⟨_, fun _ => ⟨Ent.reN [0] rfl, Ent.refl _⟩, ?_⟩)
  refine JS.norm ?_
  refine S_o rfl rfl rfl rfl (O_call [] [0,1] nb rfl rfl ?_)
  (rintro _ _ ⟨rfl, rfl⟩; refine ⟨_, fun _ => ⟨Ent.reN [0] rfl, Ent.refl _⟩, ?_⟩)
  refine JS.norm ?_
  refine S_q (Ent.re [0] rfl) rfl (Q_assign rfl) rfl rfl rfl ?_
  refine S_q (Ent.re [0] rfl) rfl (Q_assign rfl) rfl rfl rfl ?_
  refine S_nil ?_
  refine seqQ_normal ?_
  refine J_seq ?_
  refine J_seq ?_
  by_cases h1 : zb < 0
  · rw [if_pos (.inl h1)] at hr
    rw [hr]
    refine J_drawH [0] [0, 1, 2, 3, 4, 5, 6, 7, 8, 9, 10, 11, 12, 13, 14, 15] (.quiet 0 (.quiet 1 (.quiet 2 (.quiet 3 (.quiet 4 (.quiet 5 (.quiet 6 (.quiet 7 (.quiet 8 (.quiet 9 (.quiet 10 (.quiet 11 (.quiet 12 (.quiet 13 (.quiet 14 (.quiet 15 .done)))))))))))))))) Try.mixed (by kernel_rfl) (by kernel_rfl) (by repeat (first | exact retQ_noP | refine seqQ_noP ?_ | refine blockQ_noP ?_ | refine loopQ_noP ?_ | refine scopeQ_noP ?_ | (intro _ _ _ h; cases h.1))) ?_
    refine S_q (Ent.re [0] rfl) rfl (Q_move rfl) rfl rfl rfl ?_
    refine S_q (Ent.re [0] rfl) rfl ((Q_lss rfl rfl).as (v' := .bool true) (congrArg Value.bool (decide_eq_true h1))) rfl rfl rfl ?_
    refine S_q (Ent.re [0] rfl) rfl (Q_move rfl) rfl rfl rfl ?_
    refine S_n (Ent.re [0] rfl) rfl rfl rfl rfl ?_
    refine S_n (Ent.re [0] rfl) rfl rfl rfl rfl ?_
    refine S_n (Ent.re [0] rfl) rfl rfl rfl rfl ?_
    refine S_n (Ent.re [0] rfl) rfl rfl rfl rfl ?_
    refine S_n (Ent.re [0] rfl) rfl rfl rfl rfl ?_
    refine S_n (Ent.re [0] rfl) rfl rfl rfl rfl ?_
    refine S_n (Ent.re [0] rfl) rfl rfl rfl rfl ?_
    refine S_n (Ent.re [0] rfl) rfl rfl rfl rfl ?_
    refine S_n (Ent.re [0] rfl) rfl rfl rfl rfl ?_
    refine S_n (Ent.re [0] rfl) rfl rfl rfl rfl ?_
    refine S_n (Ent.re [0] rfl) rfl rfl rfl rfl ?_
    refine S_n (Ent.re [0] rfl) rfl rfl rfl rfl ?_
    refine S_q (Ent.re [0] rfl) rfl (Q_pickT rfl rfl) rfl rfl rfl ?_
    refine S_nil ?_
    refine seqQ_normal ?_
    refine J_condT rfl ?_
    refine J_seq ?_
    refine J_region ?_
    refine L_q (Q_assign rfl) rfl rfl rfl ?_
    refine L_q (Q_assign rfl) rfl rfl rfl ?_
    refine L_q (Q_assign rfl) rfl rfl rfl ?_
    refine L_q (Q_assign rfl) rfl rfl rfl ?_
    refine JL_nil ?_
    refine seqQ_normal ?_
    refine J_ret ?_
    refine seqQ_ret ?_
    exact retQ_ret _ [] (.cons (RV_tmp rfl) (.cons (RV_tmp rfl) (.cons (RV_tmp rfl) (.cons (RV_tmp rfl) .nil)))) ⟨rfl, rfl⟩ (Ent.re [1] rfl)
  by_cases h2 : za < 0
  · by_cases h4 : a ++ c ≠ []
    · rw [if_pos (.inr ⟨h2, h4⟩)] at hr
      rw [hr]
      refine J_drawH [0] [0, 1, 2, 3, 4, 5, 6, 7, 8, 9, 10, 11, 12, 13, 14, 15] (.quiet 0 (.quiet 1 (.quiet 2 (.quiet 3 (.quiet 4 (.quiet 5 (.quiet 6 (.quiet 7 (.quiet 8 (.quiet 9 (.quiet 10 (.quiet 11 (.quiet 12 (.quiet 13 (.quiet 14 (.quiet 15 .done)))))))))))))))) Try.mixed (by kernel_rfl) (by kernel_rfl) (by repeat (first | exact retQ_noP | refine seqQ_noP ?_ | refine blockQ_noP ?_ | refine loopQ_noP ?_ | refine scopeQ_noP ?_ | (intro _ _ _ h; cases h.1))) ?_
      refine S_q (Ent.re [0] rfl) rfl (Q_move rfl) rfl rfl rfl ?_
      refine S_q (Ent.re [0] rfl) rfl ((Q_lss rfl rfl).as (v' := .bool false) (congrArg Value.bool (decide_eq_false h1))) rfl rfl rfl ?_
      refine S_q (Ent.re [0] rfl) rfl (Q_move rfl) rfl rfl rfl ?_
      refine S_q (Ent.re [0] rfl) rfl (Q_move rfl) rfl rfl rfl ?_
      refine S_q (Ent.re [0] rfl) rfl ((Q_lss rfl rfl).as (v' := .bool true) (congrArg Value.bool (decide_eq_true h2))) rfl rfl rfl ?_
      refine S_q (Ent.re [0] rfl) rfl (Q_move rfl) rfl rfl rfl ?_
      refine S_q (Ent.re [0] rfl) rfl (Q_move rfl) rfl rfl rfl ?_
      refine S_q (Ent.re [0] rfl) rfl (Q_ixAt 0 0 rfl rfl rfl rfl (by simp) rfl) rfl rfl rfl ?_
      refine S_q (Ent.re [0] rfl) rfl (Q_ldEAt 0 0 0 (v := str a) rfl rfl rfl rfl (by simp) (by decide) rfl) rfl rfl rfl ?_
      refine S_q (Ent.re [0] rfl) rfl (Q_move rfl) rfl rfl rfl ?_
      refine S_q (Ent.re [0] rfl) rfl (Q_ixAt 0 2 rfl rfl rfl rfl (by simp) rfl) rfl rfl rfl ?_
      refine S_q (Ent.re [0] rfl) rfl (Q_ldEAt 0 2 0 (v := str c) rfl rfl rfl rfl (by simp) (by decide) rfl) rfl rfl rfl ?_
      refine S_q (Ent.re [0] rfl) rfl (Q_sadd rfl rfl (by omega)) rfl rfl rfl ?_
      refine S_q (Ent.re [0] rfl) rfl ((Q_sneq (b := []) rfl rfl).as (v' := .bool true) (congrArg Value.bool (decide_eq_true h4))) rfl rfl rfl ?_
      refine S_q (Ent.re [0] rfl) rfl (Q_pickT rfl rfl) rfl rfl rfl ?_
      refine S_q (Ent.re [0] rfl) rfl (Q_pickF rfl rfl) rfl rfl rfl ?_
      refine S_nil ?_
      refine seqQ_normal ?_
      refine J_condT rfl ?_
      refine J_seq ?_
      refine J_region ?_
      refine L_q (Q_assign rfl) rfl rfl rfl ?_
      refine L_q (Q_assign rfl) rfl rfl rfl ?_
      refine L_q (Q_assign rfl) rfl rfl rfl ?_
      refine L_q (Q_assign rfl) rfl rfl rfl ?_
      refine JL_nil ?_
      refine seqQ_normal ?_
      refine J_ret ?_
      refine seqQ_ret ?_
      exact retQ_ret _ [] (.cons (RV_tmp rfl) (.cons (RV_tmp rfl) (.cons (RV_tmp rfl) (.cons (RV_tmp rfl) .nil)))) ⟨rfl, rfl⟩ (Ent.re [1] rfl)
    · rw [if_neg (by rintro (h5 | h5); exact h1 h5; exact h4 h5.2)] at hr
      rw [hr]
      refine J_drawH [0] [0, 1, 2, 3, 4, 5, 6, 7, 8, 9, 10, 11, 12, 13, 14, 15] (.quiet 0 (.quiet 1 (.quiet 2 (.quiet 3 (.quiet 4 (.quiet 5 (.quiet 6 (.quiet 7 (.quiet 8 (.quiet 9 (.quiet 10 (.quiet 11 (.quiet 12 (.quiet 13 (.quiet 14 (.quiet 15 .done)))))))))))))))) Try.mixed (by kernel_rfl) (by kernel_rfl) (by repeat (first | exact retQ_noP | refine seqQ_noP ?_ | refine blockQ_noP ?_ | refine loopQ_noP ?_ | refine scopeQ_noP ?_ | (intro _ _ _ h; cases h.1))) ?_
      refine S_q (Ent.re [0] rfl) rfl (Q_move rfl) rfl rfl rfl ?_
      refine S_q (Ent.re [0] rfl) rfl ((Q_lss rfl rfl).as (v' := .bool false) (congrArg Value.bool (decide_eq_false h1))) rfl rfl rfl ?_
      refine S_q (Ent.re [0] rfl) rfl (Q_move rfl) rfl rfl rfl ?_
      refine S_q (Ent.re [0] rfl) rfl (Q_move rfl) rfl rfl rfl ?_
      refine S_q (Ent.re [0] rfl) rfl ((Q_lss rfl rfl).as (v' := .bool true) (congrArg Value.bool (decide_eq_true h2))) rfl rfl rfl ?_
      refine S_q (Ent.re [0] rfl) rfl (Q_move rfl) rfl rfl rfl ?_
      refine S_q (Ent.re [0] rfl) rfl (Q_move rfl) rfl rfl rfl ?_
      refine S_q (Ent.re [0] rfl) rfl (Q_ixAt 0 0 rfl rfl rfl rfl (by simp) rfl) rfl rfl rfl ?_
      refine S_q (Ent.re [0] rfl) rfl (Q_ldEAt 0 0 0 (v := str a) rfl rfl rfl rfl (by simp) (by decide) rfl) rfl rfl rfl ?_
      refine S_q (Ent.re [0] rfl) rfl (Q_move rfl) rfl rfl rfl ?_
      refine S_q (Ent.re [0] rfl) rfl (Q_ixAt 0 2 rfl rfl rfl rfl (by simp) rfl) rfl rfl rfl ?_
      refine S_q (Ent.re [0] rfl) rfl (Q_ldEAt 0 2 0 (v := str c) rfl rfl rfl rfl (by simp) (by decide) rfl) rfl rfl rfl ?_
      refine S_q (Ent.re [0] rfl) rfl (Q_sadd rfl rfl (by omega)) rfl rfl rfl ?_
      refine S_q (Ent.re [0] rfl) rfl ((Q_sneq (b := []) rfl rfl).as (v' := .bool false) (congrArg Value.bool (decide_eq_false h4))) rfl rfl rfl ?_
      refine S_q (Ent.re [0] rfl) rfl (Q_pickT rfl rfl) rfl rfl rfl ?_
      refine S_q (Ent.re [0] rfl) rfl (Q_pickF rfl rfl) rfl rfl rfl ?_
      refine S_nil ?_
      refine seqQ_normal ?_
      refine J_condF rfl ?_
      refine J_skip ?_
      refine seqQ_normal ?_
      refine J_seq ?_
      refine J_drawH [0] [0, 1, 2, 3, 4, 5, 6, 7, 8] (.quiet 0 (.quiet 1 (.quiet 2 (.quiet 3 (.quiet 4 (.quiet 5 (.quiet 6 (.quiet 7 (.quiet 8 .done))))))))) Try.mixed (by kernel_rfl) (by kernel_rfl) (by repeat (first | exact retQ_noP | refine seqQ_noP ?_ | refine blockQ_noP ?_ | refine loopQ_noP ?_ | refine scopeQ_noP ?_ | (intro _ _ _ h; cases h.1))) ?_
      refine S_q (Ent.re [0] rfl) rfl (Q_move rfl) rfl rfl rfl ?_
      refine S_q (Ent.re [0] rfl) rfl (Q_move rfl) rfl rfl rfl ?_
      refine S_q (Ent.re [0] rfl) rfl (Q_move rfl) rfl rfl rfl ?_
      refine S_q (Ent.re [0] rfl) rfl (Q_ixAt 0 2 rfl rfl rfl rfl (by simp) rfl) rfl rfl rfl ?_
      refine S_q (Ent.re [0] rfl) rfl (Q_ldEAt 0 2 0 (v := str c) rfl rfl rfl rfl (by simp) (by decide) rfl) rfl rfl rfl ?_
      refine S_q (Ent.re [0] rfl) rfl (Q_assign rfl) rfl rfl rfl ?_
      refine S_q (Ent.re [0] rfl) rfl (Q_assign rfl) rfl rfl rfl ?_
      refine S_q (Ent.re [0] rfl) rfl (Q_assign rfl) rfl rfl rfl ?_
      refine S_q (Ent.re [0] rfl) rfl (Q_assign rfl) rfl rfl rfl ?_
      refine S_nil ?_
      refine seqQ_normal ?_
      refine J_ret ?_
      exact retQ_ret _ [] (.cons (RV_tmp rfl) (.cons (RV_tmp rfl) (.cons (RV_tmp rfl) (.cons (RV_tmp rfl) .nil)))) ⟨rfl, rfl⟩ (Ent.re [1] rfl)
  · rw [if_neg (by rintro (h5 | h5); exact h1 h5; exact h2 h5.1)] at hr
    rw [hr]
    refine J_drawH [0] [0, 1, 2, 3, 4, 5, 6, 7, 8, 9, 10, 11, 12, 13, 14, 15] (.quiet 0 (.quiet 1 (.quiet 2 (.quiet 3 (.quiet 4 (.quiet 5 (.quiet 6 (.quiet 7 (.quiet 8 (.quiet 9 (.quiet 10 (.quiet 11 (.quiet 12 (.quiet 13 (.quiet 14 (.quiet 15 .done)))))))))))))))) Try.mixed (by kernel_rfl) (by kernel_rfl) (by repeat (first | exact retQ_noP | refine seqQ_noP ?_ | refine blockQ_noP ?_ | refine loopQ_noP ?_ | refine scopeQ_noP ?_ | (intro _ _ _ h; cases h.1))) ?_
    refine S_q (Ent.re [0] rfl) rfl (Q_move rfl) rfl rfl rfl ?_
    refine S_q (Ent.re [0] rfl) rfl ((Q_lss rfl rfl).as (v' := .bool false) (congrArg Value.bool (decide_eq_false h1))) rfl rfl rfl ?_
    refine S_q (Ent.re [0] rfl) rfl (Q_move rfl) rfl rfl rfl ?_
    refine S_q (Ent.re [0] rfl) rfl (Q_move rfl) rfl rfl rfl ?_
    refine S_q (Ent.re [0] rfl) rfl ((Q_lss rfl rfl).as (v' := .bool false) (congrArg Value.bool (decide_eq_false h2))) rfl rfl rfl ?_
    refine S_q (Ent.re [0] rfl) rfl (Q_move rfl) rfl rfl rfl ?_
    refine S_n (Ent.re [0] rfl) rfl rfl rfl rfl ?_
    refine S_n (Ent.re [0] rfl) rfl rfl rfl rfl ?_
    refine S_n (Ent.re [0] rfl) rfl rfl rfl rfl ?_
    refine S_n (Ent.re [0] rfl) rfl rfl rfl rfl ?_
    refine S_n (Ent.re [0] rfl) rfl rfl rfl rfl ?_
    refine S_n (Ent.re [0] rfl) rfl rfl rfl rfl ?_
    refine S_n (Ent.re [0] rfl) rfl rfl rfl rfl ?_
    refine S_n (Ent.re [0] rfl) rfl rfl rfl rfl ?_
    refine S_q (Ent.re [0] rfl) rfl (Q_pickF rfl rfl) rfl rfl rfl ?_
    refine S_q (Ent.re [0] rfl) rfl (Q_pickF rfl rfl) rfl rfl rfl ?_
    refine S_nil ?_
    refine seqQ_normal ?_
    refine J_condF rfl ?_
    refine J_skip ?_
    refine seqQ_normal ?_
    refine J_seq ?_
    refine J_drawH [0] [0, 1, 2, 3, 4, 5, 6, 7, 8] (.quiet 0 (.quiet 1 (.quiet 2 (.quiet 3 (.quiet 4 (.quiet 5 (.quiet 6 (.quiet 7 (.quiet 8 .done))))))))) Try.mixed (by kernel_rfl) (by kernel_rfl) (by repeat (first | exact retQ_noP | refine seqQ_noP ?_ | refine blockQ_noP ?_ | refine loopQ_noP ?_ | refine scopeQ_noP ?_ | (intro _ _ _ h; cases h.1))) ?_
    refine S_q (Ent.re [0] rfl) rfl (Q_move rfl) rfl rfl rfl ?_
    refine S_q (Ent.re [0] rfl) rfl (Q_move rfl) rfl rfl rfl ?_
    refine S_q (Ent.re [0] rfl) rfl (Q_move rfl) rfl rfl rfl ?_
    refine S_q (Ent.re [0] rfl) rfl (Q_ixAt 0 2 rfl rfl rfl rfl (by simp) rfl) rfl rfl rfl ?_
    refine S_q (Ent.re [0] rfl) rfl (Q_ldEAt 0 2 0 (v := str c) rfl rfl rfl rfl (by simp) (by decide) rfl) rfl rfl rfl ?_
    refine S_q (Ent.re [0] rfl) rfl (Q_assign rfl) rfl rfl rfl ?_
    refine S_q (Ent.re [0] rfl) rfl (Q_assign rfl) rfl rfl rfl ?_
    refine S_q (Ent.re [0] rfl) rfl (Q_assign rfl) rfl rfl rfl ?_
    refine S_q (Ent.re [0] rfl) rfl (Q_assign rfl) rfl rfl rfl ?_
    refine S_nil ?_
    refine seqQ_normal ?_
    refine J_ret ?_
    exact retQ_ret _ [] (.cons (RV_tmp rfl) (.cons (RV_tmp rfl) (.cons (RV_tmp rfl) (.cons (RV_tmp rfl) .nil)))) ⟨rfl, rfl⟩ (Ent.re [1] rfl)
theorem pisnan_ok (E : World) (x : Int) : Does Try.prog E 34 [.int .i64 x] [] fun v L => v = .bool false ∧ L = [] := by
  refine Does.of Try.func34 rfl Try.ntmps34 rfl rfl fun F => ?_
  refine J.norm ?_
  refine J_seq ?_
  refine J_region ?_
  refine L_q (Q_assign rfl) rfl rfl rfl ?_
  refine JL_nil ?_
  refine seqQ_normal ?_
  refine J_seq ?_
  refine J_region ?_
  refine L_q (Q_move rfl) rfl rfl rfl ?_
  refine L_q (Q_move rfl) rfl rfl rfl ?_
  refine L_q ((Q_neq rfl rfl).as (v' := .bool false) (congrArg Value.bool (decide_eq_false (by simp)))) rfl rfl rfl ?_
  refine L_q (Q_assign rfl) rfl rfl rfl ?_
  refine JL_nil ?_
  refine seqQ_normal ?_
  refine J_ret ?_
  exact retQ_ret _ [] (.cons (RV_tmp rfl) .nil) ⟨rfl, rfl⟩ (Ent.refl _)
theorem pisnan2_ok (E : World) (x : Int) : Does Try.prog E 43 [.int .i64 x] [] fun v L => v = .bool false ∧ L = [] := by
  refine Does.of Try.func43 rfl Try.ntmps43 rfl rfl fun F => ?_
  refine J.norm ?_
  refine J_seq ?_
  refine J_region ?_
  refine L_q (Q_assign rfl) rfl rfl rfl ?_
  refine JL_nil ?_
  refine seqQ_normal ?_
  refine J_seq ?_
  refine J_region ?_
  refine L_q (Q_move rfl) rfl rfl rfl ?_
  refine L_q (Q_move rfl) rfl rfl rfl ?_
  refine L_q ((Q_neq rfl rfl).as (v' := .bool false) (congrArg Value.bool (decide_eq_false (by simp)))) rfl rfl rfl ?_
  refine L_q (Q_assign rfl) rfl rfl rfl ?_
  refine JL_nil ?_
  refine seqQ_normal ?_
  refine J_ret ?_
  exact retQ_ret _ [] (.cons (RV_tmp rfl) .nil) ⟨rfl, rfl⟩ (Ent.refl _)
theorem pless_ok (E : World) (x y : Int) : Does Try.prog E 33 [.int .i64 x, .int .i64 y] [] fun v L => v = .bool (decide (x < y)) ∧ L = [] := by
  refine Does.of Try.func33 rfl Try.ntmps33 rfl rfl fun F => ?_
  refine J.norm ?_
  refine J_seq ?_
  refine J_region ?_
  refine L_q (Q_assign rfl) rfl rfl rfl ?_
  refine JL_nil ?_
  refine seqQ_normal ?_
  refine J_seq ?_
  refine J_region ?_
  refine L_q (Q_move rfl) rfl rfl rfl ?_
  refine L_o rfl rfl rfl (O_call [] [0] (pisnan2_ok E x) rfl rfl ?_)
  rintro _ _ ⟨rfl, rfl⟩
  refine JL.norm ?_
  refine L_q (Q_move rfl) rfl rfl rfl ?_
  refine L_n rfl rfl rfl ?_
  refine L_n rfl rfl rfl ?_
  refine L_n rfl rfl rfl ?_
  refine L_q (Q_pickF rfl rfl) rfl rfl rfl ?_
  refine L_q (Q_move rfl) rfl rfl rfl ?_
  refine L_q (Q_move rfl) rfl rfl rfl ?_
  refine L_q (Q_move rfl) rfl rfl rfl ?_
  refine L_q (Q_lss rfl rfl) rfl rfl rfl ?_
  refine L_q (Q_pickF rfl rfl) rfl rfl rfl ?_
  refine L_q (Q_assign rfl) rfl rfl rfl ?_
  refine JL_nil ?_
  refine seqQ_normal ?_
  refine J_ret ?_
  exact retQ_ret _ [] (.cons (RV_tmp rfl) .nil) ⟨rfl, rfl⟩ (Ent.refl _)
theorem bsz_ok (E : World) (S : SV) (l : List Int) (z : Int) (hl : l.length ≤ 1000) (hs : l.Pairwise (· < ·)) :
    Does Try.prog E 19 [S.v, .int .i64 z] [slc tZ true S l] fun v L => v = .tuple #[.int .i64 (posZ l z : Int), .bool (decide (z ∈ l))] ∧ L = [slc tZ true S l] := by
  have hpl := posZ_le l z
  refine Does.of Try.func19 rfl Try.ntmps19 rfl rfl fun F => ?_
  refine J.norm ?_
  refine J_seq ?_
  refine J_region ?_
  refine L_q (Q_assign rfl) rfl rfl rfl ?_
  refine L_q (Q_assign rfl) rfl rfl rfl ?_
  refine JL_nil ?_
  refine seqQ_normal ?_
  refine J_seq ?_
  refine J_region ?_
  refine L_q (Q_move rfl) rfl rfl rfl ?_
  refine L_q (Q_lenAt 0 rfl rfl) rfl rfl rfl ?_
  refine L_q (Q_assign rfl) rfl rfl rfl ?_
  refine JL_nil ?_
  refine seqQ_normal ?_
  refine J_seq ?_
  refine J_region ?_
  refine L_q (Q_move rfl) rfl rfl rfl ?_
  refine L_q (Q_assign rfl) rfl rfl rfl ?_
  refine L_q (Q_assign rfl) rfl rfl rfl ?_
  refine JL_nil ?_
  refine seqQ_normal ?_
  refine J_seq ?_
  refine J_block ?_
  refine J_loop (fun i : Nat × Nat => i.1 ≤ posZ l z ∧ posZ l z ≤ i.2 ∧ i.2 ≤ l.length) (fun i => [(0, S.v), (1, .int .i64 z), (6, .int .i64 (l.length : Int)), (7, .int .i64 (i.1 : Int)), (8, .int .i64 (i.2 : Int))]) (fun _ => [slc tZ true S l, F]) (fun i => i.2 - i.1) (0, l.length) ⟨Nat.zero_le _, hpl, Nat.le_refl _⟩ ⟨rfl, rfl, rfl, rfl, rfl, trivial⟩ (Ent.refl _) ?_
  rintro ⟨lo, hi⟩ ⟨i1, i2, i3⟩
  dsimp only at i1 i2 i3 ⊢
  refine J_seq ?_
  refine J_seq ?_
  refine J_region ?_
  refine L_q (Q_move rfl) rfl rfl rfl ?_
  refine L_q (Q_move rfl) rfl rfl rfl ?_
  refine L_q (Q_lss rfl rfl) rfl rfl rfl ?_
  refine JL_nil ?_
  refine seqQ_normal ?_
  refine J_condD rfl (fun h => ?_) (fun h => ?_)
  · have hlh : lo < hi := by omega
    have hm1 : lo ≤ (lo + hi) / 2 ^ 1 ∧ (lo + hi) / 2 ^ 1 < hi := by omega
    refine J_skip ?_
    refine seqQ_normal ?_
    refine J_block ?_
    refine J_seq ?_
    refine J_region ?_
    refine L_q (Q_move rfl) rfl rfl rfl ?_
    refine L_q (Q_move rfl) rfl rfl rfl ?_
    refine L_q (Q_add rfl rfl (by first | exact IntWalk.i64_in _ (by omega) | exact IntWalk.u8_in _ (by omega) | exact IntWalk.u32_in _ (by omega) | exact IntWalk.u64_in _ (by omega) | rfl)) rfl rfl rfl ?_
    refine L_q (Q_cvt rfl (by first | exact IntWalk.i64_in _ (by omega) | exact IntWalk.u8_in _ (by omega) | exact IntWalk.u32_in _ (by omega) | exact IntWalk.u64_in _ (by omega) | rfl)) rfl rfl rfl ?_
    refine L_q (Q_shrN (lo + hi) 1 rfl rfl (by omega) rfl (by decide)) rfl rfl rfl ?_
    refine L_q (Q_cvt rfl (by first | exact IntWalk.i64_in _ (by omega) | exact IntWalk.u8_in _ (by omega) | exact IntWalk.u32_in _ (by omega) | exact IntWalk.u64_in _ (by omega) | rfl)) rfl rfl rfl ?_
    refine L_q (Q_assign rfl) rfl rfl rfl ?_
    refine JL_nil ?_
    refine seqQ_normal ?_
    refine J_seq ?_
    generalize (lo + hi) / 2 ^ 1 = mid at *
    have hmid : mid < l.length := by omega
    have hc := pless_ok E l[mid] z
    by_cases hd : l[mid] < z
    · have hp : mid < posZ l z := by
        rcases Nat.lt_or_ge mid (posZ l z) with h2 | h2
        · exact h2
        · have := posZ_ge hs hmid h2; omega
      rw [decide_eq_true hd] at hc
      refine J_region ?_
      refine L_q (Q_move rfl) rfl rfl rfl ?_
      refine L_q (Q_move rfl) rfl rfl rfl ?_
      refine L_q (Q_ixAt 0 mid rfl rfl rfl rfl hmid rfl) rfl rfl rfl ?_
      refine L_q (Q_ldEAt 0 mid 0 (v := .int .i64 l[mid]) rfl rfl rfl rfl hmid (by decide) rfl) rfl rfl rfl ?_
      refine L_q (Q_move rfl) rfl rfl rfl ?_
      refine L_o rfl rfl rfl (O_call [] [0,1] hc rfl rfl ?_)
      rintro _ _ ⟨rfl, rfl⟩
      refine JL.norm ?_
      refine JL_nil ?_
      refine seqQ_normal ?_
      refine J_condT rfl ?_
      refine J_region ?_
      refine L_q (Q_move rfl) rfl rfl rfl ?_
      refine L_q (Q_add rfl rfl (by first | exact IntWalk.i64_in _ (by omega) | exact IntWalk.u8_in _ (by omega) | exact IntWalk.u32_in _ (by omega) | exact IntWalk.u64_in _ (by omega) | rfl)) rfl rfl rfl ?_
      refine L_q (Q_assign rfl) rfl rfl rfl ?_
      refine JL_nil ?_
      refine blockQ_normal ?_
      exact loopQ_normal (mid + 1, hi) ⟨hp, i2, i3⟩ (by simp only; omega) ⟨rfl, rfl, rfl, rfl, rfl, trivial⟩ (Ent.refl _)
    · have hp : posZ l z ≤ mid := by
        rcases Nat.lt_or_ge mid (posZ l z) with h2 | h2
        · have := posZ_lt hmid h2; omega
        · exact h2
      rw [decide_eq_false hd] at hc
      refine J_region ?_
      refine L_q (Q_move rfl) rfl rfl rfl ?_
      refine L_q (Q_move rfl) rfl rfl rfl ?_
      refine L_q (Q_ixAt 0 mid rfl rfl rfl rfl hmid rfl) rfl rfl rfl ?_
      refine L_q (Q_ldEAt 0 mid 0 (v := .int .i64 l[mid]) rfl rfl rfl rfl hmid (by decide) rfl) rfl rfl rfl ?_
      refine L_q (Q_move rfl) rfl rfl rfl ?_
      refine L_o rfl rfl rfl (O_call [] [0,1] hc rfl rfl ?_)
      rintro _ _ ⟨rfl, rfl⟩
      refine JL.norm ?_
      refine JL_nil ?_
      refine seqQ_normal ?_
      refine J_condF rfl ?_
      refine J_region ?_
      refine L_q (Q_move rfl) rfl rfl rfl ?_
      refine L_q (Q_assign rfl) rfl rfl rfl ?_
      refine JL_nil ?_
      refine blockQ_normal ?_
      exact loopQ_normal (lo, mid) ⟨i1, hp, by simp only; omega⟩ (by simp only; omega) ⟨rfl, rfl, rfl, rfl, rfl, trivial⟩ (Ent.refl _)
  · obtain rfl : lo = posZ l z := by omega
    rw [memZ_eq hs]
    generalize posZ l z = p at *
    by_cases hp : p < l.length
    · rw [dif_pos hp]
      by_cases he : l[p] = z
      · rw [decide_eq_true he]
        refine J_exit ?_
        refine seqQ_exit ?_
        refine loopQ_exit ?_
        refine blockQ_hit ?_
        refine seqQ_normal ?_
        refine J_seq ?_
        refine J_region ?_
        refine L_q (Q_move rfl) rfl rfl rfl ?_
        refine L_q (Q_move rfl) rfl rfl rfl ?_
        refine L_q (Q_move rfl) rfl rfl rfl ?_
        refine L_q ((Q_lss rfl rfl).as (v' := .bool true) (congrArg Value.bool (decide_eq_true (by omega)))) rfl rfl rfl ?_
        refine L_q (Q_move rfl) rfl rfl rfl ?_
        refine L_q (Q_move rfl) rfl rfl rfl ?_
        refine L_q (Q_move rfl) rfl rfl rfl ?_
        refine L_q (Q_ixAt 0 p rfl rfl rfl rfl hp rfl) rfl rfl rfl ?_
        refine L_q (Q_ldEAt 0 p 0 (v := .int .i64 l[p]) rfl rfl rfl rfl hp (by decide) rfl) rfl rfl rfl ?_
        refine L_q (Q_move rfl) rfl rfl rfl ?_
        refine L_q ((Q_eql rfl rfl).as (v' := .bool true) (congrArg Value.bool (decide_eq_true he))) rfl rfl rfl ?_
        refine L_q (Q_move rfl) rfl rfl rfl ?_
        refine L_n rfl rfl rfl ?_
        refine L_n rfl rfl rfl ?_
        refine L_n rfl rfl rfl ?_
        refine L_n rfl rfl rfl ?_
        refine L_n rfl rfl rfl ?_
        refine L_n rfl rfl rfl ?_
        refine L_n rfl rfl rfl ?_
        refine L_n rfl rfl rfl ?_
        refine L_n rfl rfl rfl ?_
        refine L_q (Q_pickT rfl rfl) rfl rfl rfl ?_
        refine L_q (Q_pickT rfl rfl) rfl rfl rfl ?_
        refine L_q (Q_assign rfl) rfl rfl rfl ?_
        refine L_q (Q_assign rfl) rfl rfl rfl ?_
        refine JL_nil ?_
        refine seqQ_normal ?_
        refine J_ret ?_
        exact retQ_ret _ [slc tZ true S l] (.cons (RV_tmp rfl) (.cons (RV_tmp rfl) .nil)) ⟨rfl, rfl⟩ (Ent.refl _)
      · rw [decide_eq_false he]
        refine J_exit ?_
        refine seqQ_exit ?_
        refine loopQ_exit ?_
        refine blockQ_hit ?_
        refine seqQ_normal ?_
        refine J_seq ?_
        refine J_region ?_
        refine L_q (Q_move rfl) rfl rfl rfl ?_
        refine L_q (Q_move rfl) rfl rfl rfl ?_
        refine L_q (Q_move rfl) rfl rfl rfl ?_
        refine L_q ((Q_lss rfl rfl).as (v' := .bool true) (congrArg Value.bool (decide_eq_true (by omega)))) rfl rfl rfl ?_
        refine L_q (Q_move rfl) rfl rfl rfl ?_
        refine L_q (Q_move rfl) rfl rfl rfl ?_
        refine L_q (Q_move rfl) rfl rfl rfl ?_
        refine L_q (Q_ixAt 0 p rfl rfl rfl rfl hp rfl) rfl rfl rfl ?_
        refine L_q (Q_ldEAt 0 p 0 (v := .int .i64 l[p]) rfl rfl rfl rfl hp (by decide) rfl) rfl rfl rfl ?_
        refine L_q (Q_move rfl) rfl rfl rfl ?_
        refine L_q ((Q_eql rfl rfl).as (v' := .bool false) (congrArg Value.bool (decide_eq_false he))) rfl rfl rfl ?_
        refine L_q (Q_move rfl) rfl rfl rfl ?_
        refine L_q (Q_move rfl) rfl rfl rfl ?_
        refine L_q (Q_move rfl) rfl rfl rfl ?_
        refine L_q (Q_ixAt 0 p rfl rfl rfl rfl hp rfl) rfl rfl rfl ?_
        refine L_q (Q_ldEAt 0 p 0 (v := .int .i64 l[p]) rfl rfl rfl rfl hp (by decide) rfl) rfl rfl rfl ?_
        refine L_o rfl rfl rfl (O_call [] [0,1] (pisnan_ok E l[p]) rfl rfl ?_)
        rintro _ _ ⟨rfl, rfl⟩
        refine JL.norm ?_
        refine L_q (Q_move rfl) rfl rfl rfl ?_
        refine L_n rfl rfl rfl ?_
        refine L_n rfl rfl rfl ?_
        refine L_q (Q_pickF rfl rfl) rfl rfl rfl ?_
        refine L_q (Q_pickF rfl rfl) rfl rfl rfl ?_
        refine L_q (Q_pickT rfl rfl) rfl rfl rfl ?_
        refine L_q (Q_assign rfl) rfl rfl rfl ?_
        refine L_q (Q_assign rfl) rfl rfl rfl ?_
        refine JL_nil ?_
        refine seqQ_normal ?_
        refine J_ret ?_
        exact retQ_ret _ [slc tZ true S l] (.cons (RV_tmp rfl) (.cons (RV_tmp rfl) .nil)) ⟨rfl, rfl⟩ (Ent.refl _)
    · rw [dif_neg hp]
      refine J_exit ?_
      refine seqQ_exit ?_
      refine loopQ_exit ?_
      refine blockQ_hit ?_
      refine seqQ_normal ?_
      refine J_seq ?_
      refine J_region ?_
      refine L_q (Q_move rfl) rfl rfl rfl ?_
      refine L_q (Q_move rfl) rfl rfl rfl ?_
      refine L_q (Q_move rfl) rfl rfl rfl ?_
      refine L_q ((Q_lss rfl rfl).as (v' := .bool false) (congrArg Value.bool (decide_eq_false (by omega)))) rfl rfl rfl ?_
      refine L_q (Q_move rfl) rfl rfl rfl ?_
      refine L_n rfl rfl rfl ?_
      refine L_n rfl rfl rfl ?_
      refine L_n rfl rfl rfl ?_
      refine L_n rfl rfl rfl ?_
      refine L_n rfl rfl rfl ?_
      refine L_n rfl rfl rfl ?_
      refine L_n rfl rfl rfl ?_
      refine L_n rfl rfl rfl ?_
      refine L_n rfl rfl rfl ?_
      refine L_n rfl rfl rfl ?_
      refine L_n rfl rfl rfl ?_
      refine L_n rfl rfl rfl ?_
      refine L_n rfl rfl rfl ?_
      refine L_n rfl rfl rfl ?_
      refine L_n rfl rfl rfl ?_
      refine L_n rfl rfl rfl ?_
      refine L_n rfl rfl rfl ?_
      refine L_q (Q_pickF rfl rfl) rfl rfl rfl ?_
      refine L_q (Q_assign rfl) rfl rfl rfl ?_
      refine L_q (Q_assign rfl) rfl rfl rfl ?_
      refine JL_nil ?_
      refine seqQ_normal ?_
      refine J_ret ?_
      exact retQ_ret _ [slc tZ true S l] (.cons (RV_tmp rfl) (.cons (RV_tmp rfl) .nil)) ⟨rfl, rfl⟩ (Ent.refl _)
end Go.Proofs
