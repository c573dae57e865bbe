/- The disk's functions: what each does to the disk behind its pointer. -/
import Derived.Test.YtogjhcelmbhooaaTysD
import Derived.Test.YtogjhcelmbhooaaDiskP
set_option autoImplicit false
namespace Go.Proofs
open Go.SL
attribute [local irreducible] J JL QOp JOp seqQ blockQ loopQ retQ slc cel hex star pur stars Does RV Ent pAt

def diskAt (p : Nat) (d : Dk) : HProp := hex fun S : SV => star (cel p [S.v, .int .i64 (d.s : Int)] 92) (slc tB true S d.b)
theorem diskAt_mk {p : Nat} {d : Dk} {S : SV} {t : Nat} {R : List HProp} (ht : t = 92) : Ent (cel p [S.v, .int .i64 (d.s : Int)] t :: slc tB true S d.b :: R) (diskAt p d :: R) :=
  Ent.mk fun _ _ h => Sat.mkex S (Sat.mkstar (ht ▸ h))

theorem land_one (m : Nat) (h : m < 2 ^ 64) : IntKind.u64.wrap ((BitVec.ofInt 64 (m : Int) &&& BitVec.ofInt 64 1).toNat : Int) = ((m % 2 : Nat) : Int) := by
  have h1 : (BitVec.ofInt 64 (m : Int) &&& BitVec.ofInt 64 1).toNat = m % 2 := by
    rw [BitVec.ofInt_natCast]
    rw [BitVec.toNat_and, BitVec.toNat_ofNat, Nat.mod_eq_of_lt h]
    exact Nat.and_one_is_mod m
  rw [h1]
  exact IntWalk.u64_in _ (by omega)

theorem kept_ok (E : World) (keep k : Nat) (z : Int) (hk : keep < 2 ^ 64) (hz : z = (k : Int)) : Does Try.prog E 52 [.int .u64 (keep : Int), .int .i64 z] [] fun v L => v = .bool (decide (k < 64) && (keep >>> k % 2 == 1)) ∧ L = [] := by
  subst hz
  refine Does.of Try.func52 rfl Try.ntmps52 rfl rfl fun F => ?_
  refine J.norm ?_
  refine J_seq ?_
  refine J_region ?_
  refine L_q (Q_assign rfl) rfl rfl rfl ?_
  refine JL_nil ?_
  refine seqQ_normal ?_
  refine J_seq ?_
  refine J_region ?_
  refine L_q (Q_move rfl) rfl rfl rfl ?_
  refine L_q (Q_lss rfl rfl) rfl rfl rfl ?_
  refine L_q (Q_move rfl) rfl rfl rfl ?_
  refine L_splitD rfl rfl (fun h => ?_) (fun h => ?_)
  · refine L_q (Q_move rfl) rfl rfl rfl ?_
    refine L_q (Q_move rfl) rfl rfl rfl ?_
    refine L_q (Q_shr rfl rfl (by omega) rfl) rfl rfl rfl ?_
    refine L_q (Q_and rfl rfl rfl) rfl rfl rfl ?_
    refine L_q (Q_eql rfl rfl) rfl rfl rfl ?_
    refine L_q (Q_pickT rfl rfl) rfl rfl rfl ?_
    refine L_q (Q_assign rfl) rfl rfl rfl ?_
    refine JL_nil ?_
    refine seqQ_normal ?_
    refine J_ret ?_
    refine retQ_ret _ [] (.cons (RV_tmp rfl) .nil) ⟨?_, rfl⟩ (Ent.refl _)
    have e1 : (keep : Int).fdiv (2 ^ (min (k : Int).toNat IntKind.u64.bits)) = ((keep >>> k : Nat) : Int) := by
      have : min (k : Int).toNat IntKind.u64.bits = k := by simp [IntKind.bits]; omega
      rw [this, Int.fdiv_eq_ediv_of_nonneg _ (by exact_mod_cast Nat.zero_le _), Nat.shiftRight_eq_div_pow]
      simp
    have e2 := land_one (keep >>> k) (Nat.lt_of_le_of_lt (Nat.shiftRight_le keep k) hk)
    have h' : k < 64 := by omega
    simp only [oneOf, e1]
    show Value.bool (decide (IntKind.u64.wrap ((BitVec.ofInt 64 ((keep >>> k : Nat) : Int) &&& BitVec.ofInt 64 1).toNat : Int) = 1)) = _
    rw [e2]
    simp only [h', decide_true, Bool.true_and]
    congr 1
    by_cases e : keep >>> k % 2 = 1
    · simp [e]
    · have : keep >>> k % 2 = 0 := by omega
      simp [this]
  · refine L_n rfl rfl rfl ?_
    refine L_n rfl rfl rfl ?_
    refine L_n rfl rfl rfl ?_
    refine L_n rfl rfl rfl ?_
    refine L_n rfl rfl rfl ?_
    refine L_q (Q_pickF rfl rfl) rfl rfl rfl ?_
    refine L_q (Q_assign rfl) rfl rfl rfl ?_
    refine JL_nil ?_
    refine seqQ_normal ?_
    refine J_ret ?_
    refine retQ_ret _ [] (.cons (RV_tmp rfl) .nil) ⟨?_, rfl⟩ (Ent.refl _)
    have h' : ¬ k < 64 := by omega
    simp [oneOf, h']

theorem text_ok (E : World) (p : Nat) (d : Dk) : Does Try.prog E 37 [.pointer (some ⟨p, 0, none⟩)] [diskAt p d] fun v L => v = str d.b ∧ L = [diskAt p d] := by
  refine Does.of Try.func37 rfl Try.ntmps37 rfl rfl fun F => ?_
  refine J.norm ?_
  refine J.ex fun S => J.star ?_
  refine J_seq ?_
  refine J_region ?_
  refine L_q (Q_assign rfl) rfl rfl rfl ?_
  refine JL_nil ?_
  refine seqQ_normal ?_
  refine J_seq ?_
  refine J_seq ?_
  refine J_region ?_
  refine L_q (Q_move rfl) rfl rfl rfl ?_
  refine L_q (Q_peql rfl rfl) rfl rfl rfl ?_
  refine JL_nil ?_
  refine seqQ_normal ?_
  refine J_condF rfl ?_
  refine J_skip ?_
  refine seqQ_normal ?_
  refine J_seq ?_
  refine J_region ?_
  refine L_q (Q_move rfl) rfl rfl rfl ?_
  refine L_q (Q_nilCheck rfl) rfl rfl rfl ?_
  refine L_q (Q_fa0 rfl) rfl rfl rfl ?_
  refine L_q (Q_ld 0 rfl rfl rfl rfl) rfl rfl rfl ?_
  refine L_q (Q_b2s tB_enc (fun w h => h.rd 1 rfl) rfl) rfl rfl rfl ?_
  refine L_q (Q_assign rfl) rfl rfl rfl ?_
  refine JL_nil ?_
  refine seqQ_normal ?_
  refine J_ret ?_
  exact retQ_ret _ [diskAt p d] (.cons (RV_tmp rfl) .nil) ⟨rfl, rfl⟩ (diskAt_mk rfl)

theorem tear_ok (E : World) (p keep : Nat) (d : Dk) (hk : keep < 2 ^ 64) (hs : d.s ≤ d.b.length) (hb : d.b.length ≤ 65536) :
    Does Try.prog E 47 [.pointer (some ⟨p, 0, none⟩), .int .u64 (keep : Int)] [diskAt p d] fun v L => v = .tuple #[] ∧ L = [diskAt p ⟨tear d keep, d.s⟩] := by
  refine Does.of Try.func47 rfl Try.ntmps47 rfl rfl fun F => ?_
  refine J.norm ?_
  refine J.ex fun S => J.star ?_
  refine J_seq ?_
  refine J_drawL [0, 1, 2, 3, 4, 5, 6, 7, 8, 9, 10] (.quiet 0 (.quiet 1 (.quiet 2 (.quiet 3 (.quiet 4 (.quiet 5 (.quiet 6 (.quiet 7 (.quiet 8 (.quiet 9 (.quiet 10 .done))))))))))) Try.mixed (by kernel_rfl) (by kernel_rfl) (by repeat (first | exact retQ_noP | refine seqQ_noP ?_ | refine blockQ_noP ?_ | refine loopQ_noP ?_ | refine scopeQ_noP ?_)) ?_
  refine S_q (Ent.refl _) rfl (Q_move rfl) rfl rfl rfl ?_
  refine S_q (Ent.refl _) rfl (Q_nilCheck rfl) rfl rfl rfl ?_
  refine S_q (Ent.refl _) rfl (Q_fa0 rfl) rfl rfl rfl ?_
  refine S_q (Ent.refl _) rfl (Q_ld 0 rfl rfl rfl rfl) rfl rfl rfl ?_
  refine S_q (Ent.refl _) rfl (Q_quo rfl rfl (by decide) (by first | exact IntWalk.i64_quo _ _ (by omega) | rfl)) rfl rfl rfl ?_
  refine S_q (Ent.refl _) rfl (Q_move rfl) rfl rfl rfl ?_
  refine S_q (Ent.refl _) rfl (Q_nilCheck rfl) rfl rfl rfl ?_
  refine S_q (Ent.refl _) rfl (Q_fa0 rfl) rfl rfl rfl ?_
  refine S_q (Ent.refl _) rfl (Q_ld 0 rfl rfl rfl rfl) rfl rfl rfl ?_
  refine S_q (Ent.refl _) rfl (Q_assign rfl) rfl rfl rfl ?_
  refine S_q (Ent.refl _) rfl (Q_assign rfl) rfl rfl rfl ?_
  refine S_nil ?_
  refine seqQ_normal ?_
  refine J_seq ?_
  refine J_seq ?_
  refine J_region ?_
  refine L_q (Q_move rfl) rfl rfl rfl ?_
  refine L_q (Q_nilCheck rfl) rfl rfl rfl ?_
  refine L_q (Q_fa0 rfl) rfl rfl rfl ?_
  refine L_q (Q_ld 0 rfl rfl rfl rfl) rfl rfl rfl ?_
  refine L_q (Q_assign rfl) rfl rfl rfl ?_
  refine JL_nil ?_
  refine seqQ_normal ?_
  refine J_block ?_
  refine J_loop (fun k => d.s + k ≤ d.b.length) (fun k => [(0, .pointer (some ⟨p, 0, none⟩)), (1, .int .u64 (keep : Int)), (4, .int .i64 (((d.s / 64 : Nat)) : Int)), (5, .int .i64 (endTo keep d.s k : Int)), (6, .int .i64 ((d.s + k : Nat) : Int))])
    (fun k => [cel p [S.v, .int .i64 (d.s : Int)] 92, slc tB true S (torn keep d.s d.b k), F]) (fun k => d.b.length - (d.s + k)) 0 (by omega) ⟨rfl, rfl, rfl, rfl, rfl, trivial⟩ (by rw [torn_zero]; exact Ent.refl _) ?_
  intro k hks
  refine J_seq ?_
  refine J_seq ?_
  refine J_region ?_
  refine L_q (Q_move rfl) rfl rfl rfl ?_
  refine L_q (Q_move rfl) rfl rfl rfl ?_
  refine L_q (Q_nilCheck rfl) rfl rfl rfl ?_
  refine L_q (Q_fa0 rfl) rfl rfl rfl ?_
  refine L_q (Q_ld 0 rfl rfl rfl rfl) rfl rfl rfl ?_
  refine L_q (Q_lenAt 1 rfl rfl) rfl rfl rfl ?_
  refine L_q (Q_lss rfl rfl) rfl rfl rfl ?_
  refine JL_nil ?_
  refine seqQ_normal ?_
  refine J_condD rfl (fun h => ?_) (fun h => ?_)
  · rw [torn_length] at h
    have hlt : d.s + k < d.b.length := by omega
    refine J_skip ?_
    refine seqQ_normal ?_
    refine J_seq ?_
    refine J_block ?_
    refine J_seq ?_
    refine J_region ?_
    refine L_q (Q_move rfl) rfl rfl rfl ?_
    refine L_q (Q_move rfl) rfl rfl rfl ?_
    refine L_q (Q_quo rfl rfl (by decide) (by first | exact IntWalk.i64_quo _ _ (by omega) | rfl)) rfl rfl rfl ?_
    refine L_q (Q_move rfl) rfl rfl rfl ?_
    refine L_q (Q_sub rfl rfl (by first | exact IntWalk.i64_in _ (by omega) | exact IntWalk.u8_in _ (by omega) | exact IntWalk.u32_in _ (by omega) | exact IntWalk.u64_in _ (by omega) | rfl)) rfl rfl rfl ?_
    refine L_o rfl rfl rfl (O_call [] [0,1,2] (kept_ok E keep ((d.s + k) / 64 - d.s / 64) _ hk (by omega)) rfl rfl ?_)
    rintro _ _ ⟨rfl, rfl⟩
    refine JL.norm ?_
    refine JL_nil ?_
    refine seqQ_normal ?_
    refine J_cond rfl (fun hb => ?_) (fun hb => ?_)
    · skip
      refine J_region ?_
      refine L_q (Q_move rfl) rfl rfl rfl ?_
      refine L_q (Q_add rfl rfl (by first | exact IntWalk.i64_in _ (by omega) | exact IntWalk.u8_in _ (by omega) | exact IntWalk.u32_in _ (by omega) | exact IntWalk.u64_in _ (by omega) | rfl)) rfl rfl rfl ?_
      refine L_q (Q_assign rfl) rfl rfl rfl ?_
      refine JL_nil ?_
      refine blockQ_normal ?_
      refine seqQ_normal ?_
      refine J_region ?_
      refine L_q (Q_move rfl) rfl rfl rfl ?_
      refine L_q (Q_add rfl rfl (by first | exact IntWalk.i64_in _ (by omega) | exact IntWalk.u8_in _ (by omega) | exact IntWalk.u32_in _ (by omega) | exact IntWalk.u64_in _ (by omega) | rfl)) rfl rfl rfl ?_
      refine L_q (Q_assign rfl) rfl rfl rfl ?_
      refine JL_nil ?_
      have hb : kb keep d.s (d.s + k) = true := hb
      refine loopQ_normal (k + 1) (by omega) (by omega) ⟨rfl, rfl, rfl, ?_, rfl, trivial⟩ ?_
      · simp only [endTo, hb, if_true]; rfl
      · rw [torn_kept _ _ _ _ hb]; exact Ent.refl _
    · skip
      refine J_region ?_
      refine L_q (Q_move rfl) rfl rfl rfl ?_
      refine L_q (Q_nilCheck rfl) rfl rfl rfl ?_
      refine L_q (Q_fa0 rfl) rfl rfl rfl ?_
      refine L_q (Q_ld 0 rfl rfl rfl rfl) rfl rfl rfl ?_
      refine L_q (Q_move rfl) rfl rfl rfl ?_
      refine L_q (Q_ixAt 1 (d.s + k) rfl rfl rfl rfl (by rw [torn_length]; exact hlt) rfl) rfl rfl rfl ?_
      refine L_s rfl rfl (O_stE 1 (d.s + k) 0 (0 : UInt8) rfl rfl rfl rfl rfl rfl (by simp [Value.oneCell', Value.cells]) (by rw [torn_length]; exact hlt) (by decide) rfl ?_)
      refine JL.norm ?_
      refine JL_nil ?_
      refine blockQ_normal ?_
      refine seqQ_normal ?_
      refine J_region ?_
      refine L_q (Q_move rfl) rfl rfl rfl ?_
      refine L_q (Q_add rfl rfl (by first | exact IntWalk.i64_in _ (by omega) | exact IntWalk.u8_in _ (by omega) | exact IntWalk.u32_in _ (by omega) | exact IntWalk.u64_in _ (by omega) | rfl)) rfl rfl rfl ?_
      refine L_q (Q_assign rfl) rfl rfl rfl ?_
      refine JL_nil ?_
      have hb : kb keep d.s (d.s + k) = false := hb
      refine loopQ_normal (k + 1) (by omega) (by omega) ⟨rfl, rfl, rfl, ?_, rfl, trivial⟩ ?_
      · simp only [endTo, hb]; rfl
      · rw [torn_lost _ _ _ _ hb]; exact Ent.refl _
  · rw [torn_length] at h
    have hkk : k = d.b.length - d.s := by omega
    have he := endTo_le keep d.s k
    refine J_exit ?_
    refine seqQ_exit ?_
    refine loopQ_exit ?_
    refine blockQ_hit ?_
    refine seqQ_normal ?_
    refine J_region ?_
    refine L_q (Q_move rfl) rfl rfl rfl ?_
    refine L_q (Q_move rfl) rfl rfl rfl ?_
    refine L_q (Q_nilCheck rfl) rfl rfl rfl ?_
    refine L_q (Q_fa0 rfl) rfl rfl rfl ?_
    refine L_q (Q_ld 0 rfl rfl rfl rfl) rfl rfl rfl ?_
    refine L_q (Q_move rfl) rfl rfl rfl ?_
    refine L_q (Q_slH (endTo keep d.s k) (fun w h => h.rd 1 rfl) rfl rfl rfl (by rw [torn_length]; omega) rfl) rfl rfl rfl ?_
    refine L_q (Q_nilCheck rfl) rfl rfl rfl ?_
    refine L_q (Q_fa0 rfl) rfl rfl rfl ?_
    refine L_s rfl rfl (O_st1 0 rfl rfl rfl rfl rfl ?_)
    refine JL.norm ?_
    refine JL_nil ?_
    refine retQ_normal [] [diskAt p ⟨tear d keep, d.s⟩] .nil ⟨rfl, rfl⟩ ?_
    refine (Ent.sub 1 0 (endTo keep d.s k) rfl (Nat.zero_le _) (by rw [torn_length]; omega)).trans ?_
    have e : ((torn keep d.s d.b k).take (endTo keep d.s k)).drop 0 = tear d keep := by subst hkk; rfl
    rw [e]
    exact diskAt_mk (d := ⟨tear d keep, d.s⟩) rfl


abbrev acV (a : Ac) : Value := .agg #[.int .i64 a.kind, str a.text, .int .u64 (a.keep : Int)]

theorem new_ok (E : World) : Does Try.prog E 33 [] [] fun v L => ∃ p, v = .pointer (some ⟨p, 0, none⟩) ∧ L = [diskAt p ⟨[], 0⟩] := by
  refine Does.of Try.func33 rfl Try.ntmps33 rfl rfl fun F => ?_
  refine J.norm ?_
  refine J_seq ?_
  refine J_region ?_
  refine L_q (Q_assign rfl) rfl rfl rfl ?_
  refine JL_nil ?_
  refine seqQ_normal ?_
  refine J_seq ?_
  refine J_region ?_
  refine L_q (Q_build rfl) rfl rfl rfl ?_
  refine L_o rfl rfl rfl (O_box rfl fun b2 => ?_)
  refine L_q (Q_assign rfl) rfl rfl rfl ?_
  refine JL_nil ?_
  refine seqQ_normal ?_
  refine J_ret ?_
  refine retQ_ret _ [diskAt b2 ⟨[], 0⟩] (.cons (RV_tmp rfl) .nil) ⟨b2, rfl, rfl⟩ ?_
  exact (Ent.mk fun _ _ h => (h.lay_nil tB true : Sat _ _ (slc tB true SV.nil [] :: _))).trans ((Ent.re [1, 0, 2] rfl).trans (diskAt_mk (S := SV.nil) (d := ⟨[], 0⟩) rfl))

theorem do_ok (E : World) (p : Nat) (d : Dk) (a : Ac) (hk : a.keep < 2 ^ 64) (hd : d.ok) : Does Try.prog E 36 [.pointer (some ⟨p, 0, none⟩), acV a] [diskAt p d] fun v L => v = .int .i64 (doD d a).2 ∧ L = [diskAt p (doD d a).1] := by
  obtain ⟨hs, hb⟩ := hd
  have hT := tear_length d a.keep hs
  refine Does.of Try.func36 rfl Try.ntmps36 rfl rfl fun F => ?_
  refine J.norm ?_
  refine J.ex fun S => J.star ?_
  refine J_seq ?_
  refine J_region ?_
  refine L_o rfl rfl rfl (O_box rfl fun b3 => ?_)
  refine L_q (Q_assign rfl) rfl rfl rfl ?_
  refine JL_nil ?_
  refine seqQ_normal ?_
  refine J_seq ?_
  refine J_seq ?_
  refine J_region ?_
  refine L_q (Q_move rfl) rfl rfl rfl ?_
  refine L_q (Q_peql rfl rfl) rfl rfl rfl ?_
  refine JL_nil ?_
  refine seqQ_normal ?_
  refine J_condF rfl ?_
  refine J_skip ?_
  refine seqQ_normal ?_
  refine J_seq ?_
  refine J_seq ?_
  refine J_region ?_
  refine L_q (Q_fa0 rfl) rfl rfl rfl ?_
  refine L_q (Q_ld 0 rfl rfl rfl rfl) rfl rfl rfl ?_
  refine JL_nil ?_
  refine seqQ_normal ?_
  refine J_block ?_
  refine J_seq ?_
  refine J_block ?_
  refine J_seq ?_
  refine J_block ?_
  refine J_seq ?_
  refine J_block ?_
  refine J_seq ?_
  refine J_block ?_
  refine J_seq ?_
  refine J_seq ?_
  refine J_seq ?_
  refine J_region ?_
  refine L_q (Q_eql rfl rfl) rfl rfl rfl ?_
  refine L_q (Q_assign rfl) rfl rfl rfl ?_
  refine JL_nil ?_
  refine seqQ_normal ?_
  refine J_condD rfl (fun h1 => ?_) (fun h1 => ?_)
  · refine J_exit ?_
    refine seqQ_exit ?_
    refine seqQ_exit ?_
    refine blockQ_hit ?_
    refine seqQ_normal ?_
    refine J_seq ?_
    refine J_seq ?_
    refine J_seq ?_
    refine J_drawL [0, 1, 2, 3, 4, 5, 6, 7, 8, 9] (.quiet 0 (.quiet 1 (.quiet 2 (.quiet 3 (.quiet 4 (.quiet 5 (.quiet 6 (.quiet 7 (.quiet 8 (.quiet 9 .done)))))))))) Try.mixed (by kernel_rfl) (by kernel_rfl) (by repeat (first | exact retQ_noP | refine seqQ_noP ?_ | refine blockQ_noP ?_ | refine loopQ_noP ?_ | refine scopeQ_noP ?_)) ?_
    refine S_q (Ent.refl _) rfl (Q_fa0 rfl) rfl rfl rfl ?_
    refine S_q (Ent.refl _) rfl (Q_ld 0 rfl rfl rfl rfl) rfl rfl rfl ?_
    refine S_q (Ent.refl _) rfl (Q_slen rfl) rfl rfl rfl ?_
    refine S_q (Ent.refl _) rfl (Q_move rfl) rfl rfl rfl ?_
    refine S_q (Ent.refl _) rfl (Q_nilCheck rfl) rfl rfl rfl ?_
    refine S_q (Ent.refl _) rfl (Q_fa0 rfl) rfl rfl rfl ?_
    refine S_q (Ent.refl _) rfl (Q_ld 1 rfl rfl rfl rfl) rfl rfl rfl ?_
    refine S_q (Ent.refl _) rfl (Q_lenAt 2 rfl rfl) rfl rfl rfl ?_
    refine S_q (Ent.refl _) rfl (Q_sub rfl rfl (by first | exact IntWalk.i64_in _ (by omega) | exact IntWalk.u8_in _ (by omega) | exact IntWalk.u32_in _ (by omega) | exact IntWalk.u64_in _ (by omega) | rfl)) rfl rfl rfl ?_
    refine S_q (Ent.refl _) rfl (Q_gtr rfl rfl) rfl rfl rfl ?_
    refine S_nil ?_
    refine seqQ_normal ?_
    refine J_condD rfl (fun h2 => ?_) (fun h2 => ?_)
    · refine J_seq ?_
      refine J_region ?_
      refine L_q (Q_assign rfl) rfl rfl rfl ?_
      refine JL_nil ?_
      refine seqQ_normal ?_
      refine J_ret ?_
      refine seqQ_ret ?_
      refine seqQ_ret ?_
      refine blockQ_ret ?_
      refine seqQ_ret ?_
      refine blockQ_ret ?_
      refine seqQ_ret ?_
      refine blockQ_ret ?_
      refine seqQ_ret ?_
      refine blockQ_ret ?_
      refine seqQ_ret ?_
      have e : doD d a = (d, 2) := by unfold doD; rw [if_pos h1, if_pos (by omega)]
      rw [e]
      exact retQ_ret _ [diskAt p d] (.cons (RV_tmp rfl) .nil) ⟨rfl, rfl⟩ ((Ent.re [1, 2, 3] rfl).trans (diskAt_mk rfl))
    · refine J_skip ?_
      refine seqQ_normal ?_
      refine J_drawH [0,1] [0, 1, 2, 3, 4, 5, 6, 8, 9] (.quiet 0 (.quiet 1 (.quiet 2 (.quiet 3 (.quiet 4 (.quiet 5 (.quiet 6 (.loud 7 (.quiet 8 (.quiet 9 (.loud 10 .done))))))))))) Try.mixed (by kernel_rfl) (by kernel_rfl) (by repeat (first | exact retQ_noP | refine seqQ_noP ?_ | refine blockQ_noP ?_ | refine loopQ_noP ?_ | refine scopeQ_noP ?_)) ?_
      refine S_q (Ent.re [0,1] rfl) rfl (Q_move rfl) rfl rfl rfl ?_
      refine S_q (Ent.re [0,1] rfl) rfl (Q_move rfl) rfl rfl rfl ?_
      refine S_q (Ent.re [0,1] rfl) rfl (Q_nilCheck rfl) rfl rfl rfl ?_
      refine S_q (Ent.re [0,1] rfl) rfl (Q_fa0 rfl) rfl rfl rfl ?_
      refine S_q (Ent.re [0,1] rfl) rfl (Q_ld 1 rfl rfl rfl rfl) rfl rfl rfl ?_
      refine S_q (Ent.re [0,1] rfl) rfl (Q_fa0 rfl) rfl rfl rfl ?_
      refine S_q (Ent.re [0,1] rfl) rfl (Q_ld 0 rfl rfl rfl rfl) rfl rfl rfl ?_
      refine S_o rfl rfl rfl rfl (O_appS tB_enc 2 rfl rfl rfl rfl rfl (by omega) (by decide) (fun S' => ⟨_, fun _ => ⟨Ent.reN [0,1] rfl, Ent.refl _⟩, ?_⟩))
      refine JS.norm ?_
      refine S_q (Ent.re [0,1] rfl) rfl (Q_nilCheck rfl) rfl rfl rfl ?_
      refine S_q (Ent.re [0,1] rfl) rfl (Q_fa0 rfl) rfl rfl rfl ?_
      refine S_s rfl rfl rfl (O_st1 1 rfl rfl rfl rfl rfl ⟨[], free_no (by kernel_rfl), ?_⟩)
      refine JS.norm ?_
      refine S_nil ?_
      refine seqQ_normal ?_
      refine J_exit ?_
      refine blockQ_miss rfl ?_
      refine seqQ_exit ?_
      refine blockQ_miss rfl ?_
      refine seqQ_exit ?_
      refine blockQ_miss rfl ?_
      refine seqQ_exit ?_
      refine blockQ_hit ?_
      refine seqQ_normal ?_
      refine J_seq ?_
      refine J_region ?_
      refine L_q (Q_assign rfl) rfl rfl rfl ?_
      refine JL_nil ?_
      refine seqQ_normal ?_
      refine J_ret ?_
      have e : doD d a = (⟨d.b ++ a.text, d.s⟩, 0) := by unfold doD; rw [if_pos h1, if_neg (by omega)]
      rw [e]
      exact retQ_ret _ [diskAt p ⟨d.b ++ a.text, d.s⟩] (.cons (RV_tmp rfl) .nil) ⟨rfl, rfl⟩ ((Ent.re [1, 2, 3] rfl).trans (diskAt_mk (d := ⟨d.b ++ a.text, d.s⟩) rfl))
  · refine J_skip ?_
    refine seqQ_normal ?_
    refine J_seq ?_
    refine J_seq ?_
    refine J_region ?_
    refine L_q (Q_eql rfl rfl) rfl rfl rfl ?_
    refine L_q (Q_assign rfl) rfl rfl rfl ?_
    refine JL_nil ?_
    refine seqQ_normal ?_
    refine J_condD rfl (fun h3 => ?_) (fun h3 => ?_)
    · refine J_exit ?_
      refine seqQ_exit ?_
      refine seqQ_exit ?_
      refine blockQ_miss rfl ?_
      refine seqQ_exit ?_
      refine blockQ_hit ?_
      refine seqQ_normal ?_
      refine J_region ?_
      refine L_q (Q_move rfl) rfl rfl rfl ?_
      refine L_q (Q_fa0 rfl) rfl rfl rfl ?_
      refine L_q (Q_ld 0 rfl rfl rfl rfl) rfl rfl rfl ?_
      refine JL.ent ((Ent.re [1, 2, 0, 3] rfl).trans (diskAt_mk rfl)) ?_
      refine L_o rfl rfl rfl (O_call [0] [1,2] (tear_ok E p a.keep d hk hs hb) rfl rfl ?_)
      rintro _ _ ⟨rfl, rfl⟩
      refine JL.norm ?_
      refine JL_nil ?_
      refine blockQ_normal ?_
      refine seqQ_normal ?_
      refine J_seq ?_
      refine J.ex fun S2 => J.star ?_
      refine J_region ?_
      refine L_q (Q_move rfl) rfl rfl rfl ?_
      refine L_q (Q_move rfl) rfl rfl rfl ?_
      refine L_q (Q_nilCheck rfl) rfl rfl rfl ?_
      refine L_q (Q_fa0 rfl) rfl rfl rfl ?_
      refine L_q (Q_ld 0 rfl rfl rfl rfl) rfl rfl rfl ?_
      refine L_q (Q_lenAt 1 rfl rfl) rfl rfl rfl ?_
      refine L_q (Q_nilCheck rfl) rfl rfl rfl ?_
      refine L_q (Q_fa0 rfl) rfl rfl rfl ?_
      refine L_s rfl rfl (O_st1 0 rfl rfl rfl rfl rfl ?_)
      refine JL.norm ?_
      refine JL_nil ?_
      refine seqQ_normal ?_
      refine J_exit ?_
      refine blockQ_miss rfl ?_
      refine seqQ_exit ?_
      refine blockQ_hit ?_
      refine seqQ_normal ?_
      refine J_seq ?_
      refine J_region ?_
      refine L_q (Q_assign rfl) rfl rfl rfl ?_
      refine JL_nil ?_
      refine seqQ_normal ?_
      refine J_ret ?_
      have e : doD d a = (⟨tear d a.keep, (tear d a.keep).length⟩, 0) := by unfold doD; rw [if_neg h1, if_pos h3]
      rw [e]
      exact retQ_ret _ [diskAt p ⟨tear d a.keep, (tear d a.keep).length⟩] (.cons (RV_tmp rfl) .nil) ⟨rfl, rfl⟩ ((Ent.re [0, 1, 3] rfl).trans (diskAt_mk (d := ⟨tear d a.keep, (tear d a.keep).length⟩) rfl))
    · refine J_skip ?_
      refine seqQ_normal ?_
      refine J_seq ?_
      refine J_region ?_
      refine L_q (Q_eql rfl rfl) rfl rfl rfl ?_
      refine L_q (Q_assign rfl) rfl rfl rfl ?_
      refine JL_nil ?_
      refine seqQ_normal ?_
      refine J_condD rfl (fun h2 => ?_) (fun h2 => ?_)
      · refine J_exit ?_
        refine seqQ_exit ?_
        refine blockQ_miss rfl ?_
        refine seqQ_exit ?_
        refine blockQ_miss rfl ?_
        refine seqQ_exit ?_
        refine blockQ_hit ?_
        refine seqQ_normal ?_
        refine J_seq ?_
        refine J_region ?_
        refine L_q (Q_move rfl) rfl rfl rfl ?_
        refine L_q (Q_move rfl) rfl rfl rfl ?_
        refine L_q (Q_nilCheck rfl) rfl rfl rfl ?_
        refine L_q (Q_fa0 rfl) rfl rfl rfl ?_
        refine L_q (Q_ld 1 rfl rfl rfl rfl) rfl rfl rfl ?_
        refine L_q (Q_lenAt 2 rfl rfl) rfl rfl rfl ?_
        refine L_q (Q_nilCheck rfl) rfl rfl rfl ?_
        refine L_q (Q_fa0 rfl) rfl rfl rfl ?_
        refine L_s rfl rfl (O_st1 1 rfl rfl rfl rfl rfl ?_)
        refine JL.norm ?_
        refine JL_nil ?_
        refine seqQ_normal ?_
        refine J_exit ?_
        refine blockQ_miss rfl ?_
        refine seqQ_exit ?_
        refine blockQ_hit ?_
        refine seqQ_normal ?_
        refine J_seq ?_
        refine J_region ?_
        refine L_q (Q_assign rfl) rfl rfl rfl ?_
        refine JL_nil ?_
        refine seqQ_normal ?_
        refine J_ret ?_
        have e : doD d a = (⟨d.b, d.b.length⟩, 0) := by unfold doD; rw [if_neg h1, if_neg h3, if_pos h2]
        rw [e]
        exact retQ_ret _ [diskAt p ⟨d.b, d.b.length⟩] (.cons (RV_tmp rfl) .nil) ⟨rfl, rfl⟩ ((Ent.re [1, 2, 3] rfl).trans (diskAt_mk (d := ⟨d.b, d.b.length⟩) rfl))
      · refine J_skip ?_
        refine seqQ_normal ?_
        refine J_exit ?_
        refine blockQ_miss rfl ?_
        refine seqQ_exit ?_
        refine blockQ_miss rfl ?_
        refine seqQ_exit ?_
        refine blockQ_miss rfl ?_
        refine seqQ_exit ?_
        refine blockQ_hit ?_
        refine seqQ_normal ?_
        refine J_seq ?_
        refine J_seq ?_
        refine J_region ?_
        refine L_q (Q_assign rfl) rfl rfl rfl ?_
        refine JL_nil ?_
        refine seqQ_normal ?_
        refine J_ret ?_
        refine seqQ_ret ?_
        refine blockQ_ret ?_
        refine seqQ_ret ?_
        have e : doD d a = (d, 1) := by unfold doD; rw [if_neg h1, if_neg h3, if_neg h2]
        rw [e]
        exact retQ_ret _ [diskAt p d] (.cons (RV_tmp rfl) .nil) ⟨rfl, rfl⟩ ((Ent.re [1, 2, 3] rfl).trans (diskAt_mk rfl))
end Go.Proofs
