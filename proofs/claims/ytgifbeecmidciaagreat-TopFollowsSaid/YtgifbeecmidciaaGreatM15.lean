/- Part 15 of the texts below the row: Disk, Seg1, Seg2, Seg3, Seg4, Seg5. -/
import Derived.Test.YtgifbeecmidciaaGreatM14
/- The disk's functions: what each does to the disk behind its pointer. -/
set_option autoImplicit false
namespace Go.Proofs
open Go.SL
attribute [local irreducible] J JL QOp JOp seqQ blockQ loopQ retQ slc cel hex star pur stars Does RV Ent pAt
def diskAt (p : Nat) (d : Dk) : HProp := hex fun S : SV => star (cel p [S.v, .int .i64 (d.s : Int)] 187) (slc tB true S d.b)
theorem diskAt_mk {p : Nat} {d : Dk} {S : SV} {t : Nat} {R : List HProp} (ht : t = 187) : Ent (cel p [S.v, .int .i64 (d.s : Int)] t :: slc tB true S d.b :: R) (diskAt p d :: R) :=
 Ent.mk fun _ _ h => Sat.mkex S (Sat.mkstar (ht ▸ h))
theorem land_one (m : Nat) (h : m < 2 ^ 64) : IntKind.u64.wrap ((BitVec.ofInt 64 (m : Int) &&& BitVec.ofInt 64 1).toNat : Int) = ((m % 2 : Nat) : Int) := by
 have h1 : (BitVec.ofInt 64 (m : Int) &&& BitVec.ofInt 64 1).toNat = m % 2 := by
  rw [BitVec.ofInt_natCast]
  rw [BitVec.toNat_and, BitVec.toNat_ofNat, Nat.mod_eq_of_lt h]
  exact Nat.and_one_is_mod m
 rw [h1]
 exact IntWalk.u64_in _ (by omega)
theorem kept_ok (E : World) (keep k : Nat) (z : Int) (hk : keep < 2 ^ 64) (hz : z = (k : Int)) : Does Tryz.prog E 112 [.int .u64 (keep : Int), .int .i64 z] [] fun v L => v = .bool (decide (k < 64) && (keep >>> k % 2 == 1)) ∧ L = [] := by
 subst hz
 refine Does.of Tryz.func112 rfl Tryz.ntmps112 rfl rfl fun F => ?_
 refine J.norm ?_
 refine Sr ?_
 refine Lq (Q_assign rfl) ?_
 refine Ln ?_
 refine Sr ?_
 refine Lq (Q_move rfl) ?_
 refine Lq (Q_lss rfl rfl) ?_
 refine Lq (Q_move rfl) ?_
 refine L_splitD rfl rfl (fun h => ?_) (fun h => ?_)
 ·refine Lq (Q_move rfl) ?_
  refine Lq (Q_move rfl) ?_
  refine Lq (Q_shr rfl rfl (by omega) rfl) ?_
  refine Lq (Q_and rfl rfl rfl) ?_
  refine Lq (Q_eql rfl rfl) ?_
  refine Lq (Q_pickT rfl rfl) ?_
  refine Lq (Q_assign rfl) ?_
  refine Ln ?_
  refine J_ret ?_
  refine retQ_ret _ [] (.cons (RV_tmp rfl) .nil) ⟨?_, rfl⟩ (Ent.refl _)
  have e1 : (keep : Int).fdiv (2 ^ (min (k : Int).toNat IntKind.u64.bits)) = ((keep >>> k : Nat) : Int) := by
   have : min (k : Int).toNat IntKind.u64.bits = k := by simp [IntKind.bits]; omega
   rw [this, Int.fdiv_eq_ediv_of_nonneg _ (by exact_mod_cast Nat.zero_le _), Nat.shiftRight_eq_div_pow]
   simp
  have e2 := land_one (keep >>> k) (Nat.lt_of_le_of_lt (Nat.shiftRight_le keep k) hk)
  have h' : k < 64 := by omega
  simp only [oneOf, e1]
  show Value.bool (decide (IntKind.u64.wrap ((BitVec.ofInt 64 ((keep >>> k : Nat) : Int) &&& BitVec.ofInt 64 1).toNat : Int) = 1)) = _
  rw [e2]
  simp only [h', decide_true, Bool.true_and]
  congr 1
  by_cases e : keep >>> k % 2 = 1
  ·simp [e]
  ·have : keep >>> k % 2 = 0 := by omega
   simp [this]
 ·refine L_n rfl rfl rfl ?_
  refine L_n rfl rfl rfl ?_
  refine L_n rfl rfl rfl ?_
  refine L_n rfl rfl rfl ?_
  refine L_n rfl rfl rfl ?_
  refine Lq (Q_pickF rfl rfl) ?_
  refine Lq (Q_assign rfl) ?_
  refine Ln ?_
  refine J_ret ?_
  refine retQ_ret _ [] (.cons (RV_tmp rfl) .nil) ⟨?_, rfl⟩ (Ent.refl _)
  have h' : ¬ k < 64 := by omega
  simp [oneOf, h']
theorem text_ok (E : World) (p : Nat) (d : Dk) : Does Tryz.prog E 91 [.pointer (some ⟨p, 0, none⟩)] [diskAt p d] fun v L => v = str d.b ∧ L = [diskAt p d] := by
 refine Does.of Tryz.func91 rfl Tryz.ntmps91 rfl rfl fun F => ?_
 refine J.norm ?_
 refine J.ex fun S => J.star ?_
 refine Sr ?_
 refine Lq (Q_assign rfl) ?_
 refine Ln ?_
 refine J_seq ?_
 refine Sr ?_
 refine Lq (Q_move rfl) ?_
 refine Lq (Q_peql rfl rfl) ?_
 refine Ln ?_
 refine J_condF rfl ?_
 refine J_skip ?_
 refine seqQ_normal ?_
 refine Sr ?_
 refine Lq (Q_move rfl) ?_
 refine Lq (Q_nilCheck rfl) ?_
 refine Lq (Q_fa0 rfl) ?_
 refine Lq (Q_ld 0 rfl rfl rfl rfl) ?_
 refine Lq (Q_b2s tB_enc (fun w h => h.rd 1 rfl) rfl) ?_
 refine Lq (Q_assign rfl) ?_
 refine Ln ?_
 refine J_ret ?_
 exact retQ_ret _ [diskAt p d] (.cons (RV_tmp rfl) .nil) ⟨rfl, rfl⟩ (diskAt_mk rfl)
theorem tear_ok (E : World) (p keep : Nat) (d : Dk) (hk : keep < 2 ^ 64) (hs : d.s ≤ d.b.length) (hb : d.b.length ≤ 65536) :
 Does Tryz.prog E 95 [.pointer (some ⟨p, 0, none⟩), .int .u64 (keep : Int)] [diskAt p d] fun v L => v = .tuple #[] ∧ L = [diskAt p ⟨tear d keep, d.s⟩] := by
 refine Does.of Tryz.func95 rfl Tryz.ntmps95 rfl rfl fun F => ?_
 refine J.norm ?_
 refine J.ex fun S => J.star ?_
 refine J_seq ?_
 refine DL [0,1,2,3,4,5,6,7,8,9,10] (.quiet 0 (.quiet 1 (.quiet 2 (.quiet 3 (.quiet 4 (.quiet 5 (.quiet 6 (.quiet 7 (.quiet 8 (.quiet 9 (.quiet 10 .done))))))))))) Tryz.mixed ?_
 refine Sq (Ent.refl _) rfl (Q_move rfl) ?_
 refine Sq (Ent.refl _) rfl (Q_nilCheck rfl) ?_
 refine Sq (Ent.refl _) rfl (Q_fa0 rfl) ?_
 refine Sq (Ent.refl _) rfl (Q_ld 0 rfl rfl rfl rfl) ?_
 refine Sq (Ent.refl _) rfl (Q_quo rfl rfl (by decide) (by first | exact IntWalk.i64_quo _ _ (by omega) | rfl)) ?_
 refine Sq (Ent.refl _) rfl (Q_move rfl) ?_
 refine Sq (Ent.refl _) rfl (Q_nilCheck rfl) ?_
 refine Sq (Ent.refl _) rfl (Q_fa0 rfl) ?_
 refine Sq (Ent.refl _) rfl (Q_ld 0 rfl rfl rfl rfl) ?_
 refine Sq (Ent.refl _) rfl (Q_assign rfl) ?_
 refine Sq (Ent.refl _) rfl (Q_assign rfl) ?_
 refine S_nil ?_
 refine seqQ_normal ?_
 refine J_seq ?_
 refine Sr ?_
 refine Lq (Q_move rfl) ?_
 refine Lq (Q_nilCheck rfl) ?_
 refine Lq (Q_fa0 rfl) ?_
 refine Lq (Q_ld 0 rfl rfl rfl rfl) ?_
 refine Lq (Q_assign rfl) ?_
 refine Ln ?_
 refine J_block ?_
 refine J_loop (fun k => d.s + k ≤ d.b.length) (fun k => [(0, .pointer (some ⟨p, 0, none⟩)), (1, .int .u64 (keep : Int)), (4, .int .i64 (((d.s / 64 : Nat)) : Int)), (5, .int .i64 (endTo keep d.s k : Int)), (6, .int .i64 ((d.s + k : Nat) : Int))])
  (fun k => [cel p [S.v, .int .i64 (d.s : Int)] 187, slc tB true S (torn keep d.s d.b k), F]) (fun k => d.b.length - (d.s + k)) 0 (by omega) ⟨rfl, rfl, rfl, rfl, rfl, trivial⟩ (by rw [torn_zero]; exact Ent.refl _) ?_
 intro k hks
 refine J_seq ?_
 refine Sr ?_
 refine Lq (Q_move rfl) ?_
 refine Lq (Q_move rfl) ?_
 refine Lq (Q_nilCheck rfl) ?_
 refine Lq (Q_fa0 rfl) ?_
 refine Lq (Q_ld 0 rfl rfl rfl rfl) ?_
 refine Lq (Q_lenAt 1 rfl rfl) ?_
 refine Lq (Q_lss rfl rfl) ?_
 refine Ln ?_
 refine J_condD rfl (fun h => ?_) (fun h => ?_)
 ·rw [torn_length] at h
  have hlt : d.s + k < d.b.length := by omega
  refine J_skip ?_
  refine seqQ_normal ?_
  refine J_seq ?_
  refine J_block ?_
  refine Sr ?_
  refine Lq (Q_move rfl) ?_
  refine Lq (Q_move rfl) ?_
  refine Lq (Q_quo rfl rfl (by decide) (by first | exact IntWalk.i64_quo _ _ (by omega) | rfl)) ?_
  refine Lq (Q_move rfl) ?_
  refine Lq (Q_sub rfl rfl (by first | exact IntWalk.i64_in _ (by omega) | exact IntWalk.u8_in _ (by omega) | exact IntWalk.u32_in _ (by omega) | exact IntWalk.u64_in _ (by omega) | rfl)) ?_
  refine L_o rfl rfl rfl (O_call [] [0,1,2] (kept_ok E keep ((d.s + k) / 64 - d.s / 64) _ hk (by omega)) rfl rfl ?_)
  rintro _ _ ⟨rfl, rfl⟩
  refine JL.norm ?_
  refine Ln ?_
  refine J_cond rfl (fun hb => ?_) (fun hb => ?_)
  ·skip
   refine J_region ?_
   refine Lq (Q_move rfl) ?_
   refine Lq (Q_add rfl rfl (by first | exact IntWalk.i64_in _ (by omega) | exact IntWalk.u8_in _ (by omega) | exact IntWalk.u32_in _ (by omega) | exact IntWalk.u64_in _ (by omega) | rfl)) ?_
   refine Lq (Q_assign rfl) ?_
   refine JL_nil ?_
   refine blockQ_normal ?_
   refine seqQ_normal ?_
   refine J_region ?_
   refine Lq (Q_move rfl) ?_
   refine Lq (Q_add rfl rfl (by first | exact IntWalk.i64_in _ (by omega) | exact IntWalk.u8_in _ (by omega) | exact IntWalk.u32_in _ (by omega) | exact IntWalk.u64_in _ (by omega) | rfl)) ?_
   refine Lq (Q_assign rfl) ?_
   refine JL_nil ?_
   have hb : kb keep d.s (d.s + k) = true := hb
   refine loopQ_normal (k + 1) (by omega) (by omega) ⟨rfl, rfl, rfl, ?_, rfl, trivial⟩ ?_
   ·simp only [endTo, hb, if_true]; rfl
   ·rw [torn_kept _ _ _ _ hb]; exact Ent.refl _
  ·skip
   refine J_region ?_
   refine Lq (Q_move rfl) ?_
   refine Lq (Q_nilCheck rfl) ?_
   refine Lq (Q_fa0 rfl) ?_
   refine Lq (Q_ld 0 rfl rfl rfl rfl) ?_
   refine Lq (Q_move rfl) ?_
   refine Lq (Q_ixAt 1 (d.s + k) rfl rfl rfl rfl (by rw [torn_length]; exact hlt) rfl) ?_
   refine L_s rfl rfl (O_stE 1 (d.s + k) 0 (0 : UInt8) rfl rfl rfl rfl rfl rfl (by simp [Value.oneCell', Value.cells]) (by rw [torn_length]; exact hlt) (by decide) rfl ?_)
   refine JL.norm ?_
   refine JL_nil ?_
   refine blockQ_normal ?_
   refine seqQ_normal ?_
   refine J_region ?_
   refine Lq (Q_move rfl) ?_
   refine Lq (Q_add rfl rfl (by first | exact IntWalk.i64_in _ (by omega) | exact IntWalk.u8_in _ (by omega) | exact IntWalk.u32_in _ (by omega) | exact IntWalk.u64_in _ (by omega) | rfl)) ?_
   refine Lq (Q_assign rfl) ?_
   refine JL_nil ?_
   have hb : kb keep d.s (d.s + k) = false := hb
   refine loopQ_normal (k + 1) (by omega) (by omega) ⟨rfl, rfl, rfl, ?_, rfl, trivial⟩ ?_
   ·simp only [endTo, hb]; rfl
   ·rw [torn_lost _ _ _ _ hb]; exact Ent.refl _
 ·rw [torn_length] at h
  have hkk : k = d.b.length - d.s := by omega
  have he := endTo_le keep d.s k
  refine J_exit ?_
  refine seqQ_exit ?_
  refine loopQ_exit ?_
  refine blockQ_hit ?_
  refine seqQ_normal ?_
  refine J_region ?_
  refine Lq (Q_move rfl) ?_
  refine Lq (Q_move rfl) ?_
  refine Lq (Q_nilCheck rfl) ?_
  refine Lq (Q_fa0 rfl) ?_
  refine Lq (Q_ld 0 rfl rfl rfl rfl) ?_
  refine Lq (Q_move rfl) ?_
  refine Lq (Q_slH (endTo keep d.s k) (fun w h => h.rd 1 rfl) rfl rfl rfl (by rw [torn_length]; omega) rfl) ?_
  refine Lq (Q_nilCheck rfl) ?_
  refine Lq (Q_fa0 rfl) ?_
  refine L_s rfl rfl (O_st1 0 rfl rfl rfl rfl rfl ?_)
  refine JL.norm ?_
  refine JL_nil ?_
  refine retQ_normal [] [diskAt p ⟨tear d keep, d.s⟩] .nil ⟨rfl, rfl⟩ ?_
  refine (Ent.sub 1 0 (endTo keep d.s k) rfl (Nat.zero_le _) (by rw [torn_length]; omega)).trans ?_
  have e : ((torn keep d.s d.b k).take (endTo keep d.s k)).drop 0 = tear d keep := by subst hkk; rfl
  rw [e]
  exact diskAt_mk (d := ⟨tear d keep, d.s⟩) rfl
abbrev acV (a : Ac) : Value := .agg #[.int .i64 a.kind, str a.text, .int .u64 (a.keep : Int)]
theorem new_ok (E : World) : Does Tryz.prog E 90 [] [] fun v L => ∃ p, v = .pointer (some ⟨p, 0, none⟩) ∧ L = [diskAt p ⟨[], 0⟩] := by
 refine Does.of Tryz.func90 rfl Tryz.ntmps90 rfl rfl fun F => ?_
 refine J.norm ?_
 refine Sr ?_
 refine Lq (Q_assign rfl) ?_
 refine Ln ?_
 refine Sr ?_
 refine Lq (Q_build rfl) ?_
 refine L_o rfl rfl rfl (O_box rfl fun b2 => ?_)
 refine Lq (Q_assign rfl) ?_
 refine Ln ?_
 refine J_ret ?_
 refine retQ_ret _ [diskAt b2 ⟨[], 0⟩] (.cons (RV_tmp rfl) .nil) ⟨b2, rfl, rfl⟩ ?_
 exact (Ent.mk fun _ _ h => (h.lay_nil tB true : Sat _ _ (slc tB true SV.nil [] :: _))).trans ((Ent.re [1,0,2] rfl).trans (diskAt_mk (S := SV.nil) (d := ⟨[], 0⟩) rfl))
theorem do_ok (E : World) (p : Nat) (d : Dk) (a : Ac) (hk : a.keep < 2 ^ 64) (hd : d.ok) : Does Tryz.prog E 66 [.pointer (some ⟨p, 0, none⟩), acV a] [diskAt p d] fun v L => v = .int .i64 (doD d a).2 ∧ L = [diskAt p (doD d a).1] := by
 obtain ⟨hs, hb⟩ := hd
 have hT := tear_length d a.keep hs
 refine Does.of Tryz.func66 rfl Tryz.ntmps66 rfl rfl fun F => ?_
 refine J.norm ?_
 refine J.ex fun S => J.star ?_
 refine Sr ?_
 refine L_o rfl rfl rfl (O_box rfl fun b3 => ?_)
 refine Lq (Q_assign rfl) ?_
 refine Ln ?_
 refine J_seq ?_
 refine Sr ?_
 refine Lq (Q_move rfl) ?_
 refine Lq (Q_peql rfl rfl) ?_
 refine Ln ?_
 refine J_condF rfl ?_
 refine J_skip ?_
 refine seqQ_normal ?_
 refine J_seq ?_
 refine Sr ?_
 refine Lq (Q_fa0 rfl) ?_
 refine Lq (Q_ld 0 rfl rfl rfl rfl) ?_
 refine Ln ?_
 refine J_block ?_
 refine J_seq ?_
 refine J_block ?_
 refine J_seq ?_
 refine J_block ?_
 refine J_seq ?_
 refine J_block ?_
 refine J_seq ?_
 refine J_block ?_
 refine J_seq ?_
 refine J_seq ?_
 refine Sr ?_
 refine Lq (Q_eql rfl rfl) ?_
 refine Lq (Q_assign rfl) ?_
 refine Ln ?_
 refine J_condD rfl (fun h1 => ?_) (fun h1 => ?_)
 ·refine J_exit ?_
  refine seqQ_exit ?_
  refine seqQ_exit ?_
  refine blockQ_hit ?_
  refine seqQ_normal ?_
  refine J_seq ?_
  refine J_seq ?_
  refine J_seq ?_
  refine DL [0,1,2,3,4,5,6,7,8,9] (.quiet 0 (.quiet 1 (.quiet 2 (.quiet 3 (.quiet 4 (.quiet 5 (.quiet 6 (.quiet 7 (.quiet 8 (.quiet 9 .done)))))))))) Tryz.mixed ?_
  refine Sq (Ent.refl _) rfl (Q_fa0 rfl) ?_
  refine Sq (Ent.refl _) rfl (Q_ld 0 rfl rfl rfl rfl) ?_
  refine Sq (Ent.refl _) rfl (Q_slen rfl) ?_
  refine Sq (Ent.refl _) rfl (Q_move rfl) ?_
  refine Sq (Ent.refl _) rfl (Q_nilCheck rfl) ?_
  refine Sq (Ent.refl _) rfl (Q_fa0 rfl) ?_
  refine Sq (Ent.refl _) rfl (Q_ld 1 rfl rfl rfl rfl) ?_
  refine Sq (Ent.refl _) rfl (Q_lenAt 2 rfl rfl) ?_
  refine Sq (Ent.refl _) rfl (Q_sub rfl rfl (by first | exact IntWalk.i64_in _ (by omega) | exact IntWalk.u8_in _ (by omega) | exact IntWalk.u32_in _ (by omega) | exact IntWalk.u64_in _ (by omega) | rfl)) ?_
  refine Sq (Ent.refl _) rfl (Q_gtr rfl rfl) ?_
  refine S_nil ?_
  refine seqQ_normal ?_
  refine J_condD rfl (fun h2 => ?_) (fun h2 => ?_)
  ·refine Sr ?_
   refine Lq (Q_assign rfl) ?_
   refine Ln ?_
   refine J_ret ?_
   refine seqQ_ret ?_
   refine seqQ_ret ?_
   refine blockQ_ret ?_
   refine seqQ_ret ?_
   refine blockQ_ret ?_
   refine seqQ_ret ?_
   refine blockQ_ret ?_
   refine seqQ_ret ?_
   refine blockQ_ret ?_
   refine seqQ_ret ?_
   have e : doD d a = (d, 2) := by unfold doD; rw [if_pos h1, if_pos (by omega)]
   rw [e]
   exact retQ_ret _ [diskAt p d] (.cons (RV_tmp rfl) .nil) ⟨rfl, rfl⟩ ((Ent.re [1,2,3] rfl).trans (diskAt_mk rfl))
  ·refine J_skip ?_
   refine seqQ_normal ?_
   refine DH [0,1] [0,1,2,3,4,5,6,8,9] (.quiet 0 (.quiet 1 (.quiet 2 (.quiet 3 (.quiet 4 (.quiet 5 (.quiet 6 (.loud 7 (.quiet 8 (.quiet 9 (.loud 10 .done))))))))))) Tryz.mixed ?_
   refine Sq (Ent.re [0,1] rfl) rfl (Q_move rfl) ?_
   refine Sq (Ent.re [0,1] rfl) rfl (Q_move rfl) ?_
   refine Sq (Ent.re [0,1] rfl) rfl (Q_nilCheck rfl) ?_
   refine Sq (Ent.re [0,1] rfl) rfl (Q_fa0 rfl) ?_
   refine Sq (Ent.re [0,1] rfl) rfl (Q_ld 1 rfl rfl rfl rfl) ?_
   refine Sq (Ent.re [0,1] rfl) rfl (Q_fa0 rfl) ?_
   refine Sq (Ent.re [0,1] rfl) rfl (Q_ld 0 rfl rfl rfl rfl) ?_
   refine S_o rfl rfl rfl rfl (O_appS tB_enc 2 rfl rfl rfl rfl rfl (by omega) (by decide) (fun S' => ⟨_, fun _ => ⟨Ent.reN [0,1] rfl, Ent.refl _⟩, ?_⟩))
   refine JS.norm ?_
   refine Sq (Ent.re [0,1] rfl) rfl (Q_nilCheck rfl) ?_
   refine Sq (Ent.re [0,1] rfl) rfl (Q_fa0 rfl) ?_
   refine S_s rfl rfl rfl (O_st1 1 rfl rfl rfl rfl rfl ⟨[], free_no (by kernel_rfl), ?_⟩)
   refine JS.norm ?_
   refine S_nil ?_
   refine seqQ_normal ?_
   refine J_exit ?_
   refine blockQ_miss rfl ?_
   refine seqQ_exit ?_
   refine blockQ_miss rfl ?_
   refine seqQ_exit ?_
   refine blockQ_miss rfl ?_
   refine seqQ_exit ?_
   refine blockQ_hit ?_
   refine seqQ_normal ?_
   refine Sr ?_
   refine Lq (Q_assign rfl) ?_
   refine Ln ?_
   refine J_ret ?_
   have e : doD d a = (⟨d.b ++ a.text, d.s⟩, 0) := by unfold doD; rw [if_pos h1, if_neg (by omega)]
   rw [e]
   exact retQ_ret _ [diskAt p ⟨d.b ++ a.text, d.s⟩] (.cons (RV_tmp rfl) .nil) ⟨rfl, rfl⟩ ((Ent.re [1,2,3] rfl).trans (diskAt_mk (d := ⟨d.b ++ a.text, d.s⟩) rfl))
 ·refine J_skip ?_
  refine seqQ_normal ?_
  refine J_seq ?_
  refine Sr ?_
  refine Lq (Q_eql rfl rfl) ?_
  refine Lq (Q_assign rfl) ?_
  refine Ln ?_
  refine J_condD rfl (fun h3 => ?_) (fun h3 => ?_)
  ·refine J_exit ?_
   refine seqQ_exit ?_
   refine seqQ_exit ?_
   refine blockQ_miss rfl ?_
   refine seqQ_exit ?_
   refine blockQ_hit ?_
   refine seqQ_normal ?_
   refine J_region ?_
   refine Lq (Q_move rfl) ?_
   refine Lq (Q_fa0 rfl) ?_
   refine Lq (Q_ld 0 rfl rfl rfl rfl) ?_
   refine JL.ent ((Ent.re [1,2,0,3] rfl).trans (diskAt_mk rfl)) ?_
   refine L_o rfl rfl rfl (O_call [0] [1,2] (tear_ok E p a.keep d hk hs hb) rfl rfl ?_)
   rintro _ _ ⟨rfl, rfl⟩
   refine JL.norm ?_
   refine JL_nil ?_
   refine blockQ_normal ?_
   refine seqQ_normal ?_
   refine J_seq ?_
   refine J.ex fun S2 => J.star ?_
   refine J_region ?_
   refine Lq (Q_move rfl) ?_
   refine Lq (Q_move rfl) ?_
   refine Lq (Q_nilCheck rfl) ?_
   refine Lq (Q_fa0 rfl) ?_
   refine Lq (Q_ld 0 rfl rfl rfl rfl) ?_
   refine Lq (Q_lenAt 1 rfl rfl) ?_
   refine Lq (Q_nilCheck rfl) ?_
   refine Lq (Q_fa0 rfl) ?_
   refine L_s rfl rfl (O_st1 0 rfl rfl rfl rfl rfl ?_)
   refine JL.norm ?_
   refine Ln ?_
   refine J_exit ?_
   refine blockQ_miss rfl ?_
   refine seqQ_exit ?_
   refine blockQ_hit ?_
   refine seqQ_normal ?_
   refine Sr ?_
   refine Lq (Q_assign rfl) ?_
   refine Ln ?_
   refine J_ret ?_
   have e : doD d a = (⟨tear d a.keep, (tear d a.keep).length⟩, 0) := by unfold doD; rw [if_neg h1, if_pos h3]
   rw [e]
   exact retQ_ret _ [diskAt p ⟨tear d a.keep, (tear d a.keep).length⟩] (.cons (RV_tmp rfl) .nil) ⟨rfl, rfl⟩ ((Ent.re [0,1,3] rfl).trans (diskAt_mk (d := ⟨tear d a.keep, (tear d a.keep).length⟩) rfl))
  ·refine J_skip ?_
   refine seqQ_normal ?_
   refine Sr ?_
   refine Lq (Q_eql rfl rfl) ?_
   refine Lq (Q_assign rfl) ?_
   refine Ln ?_
   refine J_condD rfl (fun h2 => ?_) (fun h2 => ?_)
   ·refine J_exit ?_
    refine seqQ_exit ?_
    refine blockQ_miss rfl ?_
    refine seqQ_exit ?_
    refine blockQ_miss rfl ?_
    refine seqQ_exit ?_
    refine blockQ_hit ?_
    refine seqQ_normal ?_
    refine Sr ?_
    refine Lq (Q_move rfl) ?_
    refine Lq (Q_move rfl) ?_
    refine Lq (Q_nilCheck rfl) ?_
    refine Lq (Q_fa0 rfl) ?_
    refine Lq (Q_ld 1 rfl rfl rfl rfl) ?_
    refine Lq (Q_lenAt 2 rfl rfl) ?_
    refine Lq (Q_nilCheck rfl) ?_
    refine Lq (Q_fa0 rfl) ?_
    refine L_s rfl rfl (O_st1 1 rfl rfl rfl rfl rfl ?_)
    refine JL.norm ?_
    refine Ln ?_
    refine J_exit ?_
    refine blockQ_miss rfl ?_
    refine seqQ_exit ?_
    refine blockQ_hit ?_
    refine seqQ_normal ?_
    refine Sr ?_
    refine Lq (Q_assign rfl) ?_
    refine Ln ?_
    refine J_ret ?_
    have e : doD d a = (⟨d.b, d.b.length⟩, 0) := by unfold doD; rw [if_neg h1, if_neg h3, if_pos h2]
    rw [e]
    exact retQ_ret _ [diskAt p ⟨d.b, d.b.length⟩] (.cons (RV_tmp rfl) .nil) ⟨rfl, rfl⟩ ((Ent.re [1,2,3] rfl).trans (diskAt_mk (d := ⟨d.b, d.b.length⟩) rfl))
   ·refine J_skip ?_
    refine seqQ_normal ?_
    refine J_exit ?_
    refine blockQ_miss rfl ?_
    refine seqQ_exit ?_
    refine blockQ_miss rfl ?_
    refine seqQ_exit ?_
    refine blockQ_miss rfl ?_
    refine seqQ_exit ?_
    refine blockQ_hit ?_
    refine seqQ_normal ?_
    refine J_seq ?_
    refine Sr ?_
    refine Lq (Q_assign rfl) ?_
    refine Ln ?_
    refine J_ret ?_
    refine seqQ_ret ?_
    refine blockQ_ret ?_
    refine seqQ_ret ?_
    have e : doD d a = (d, 1) := by unfold doD; rw [if_neg h1, if_neg h3, if_neg h2]
    rw [e]
    exact retQ_ret _ [diskAt p d] (.cons (RV_tmp rfl) .nil) ⟨rfl, rfl⟩ ((Ent.re [1,2,3] rfl).trans (diskAt_mk rfl))
end Go.Proofs
/- A log in files: how it lies in cells; its numbers. -/
set_option autoImplicit false
namespace Go.Proofs
open Go.SL
def tI : Ty Nat := ⟨3, 1, fun n => [.int .i64 (n : Int)], fun _ => rfl, by decide, fun a v hv => by simp at hv; subst hv; rfl⟩
instance : TyU Tryz.prog tI.e (.int .i64) := inferInstanceAs (TyU Tryz.prog 3 (.int .i64))
instance : TyI Tryz.prog tI.e 1 (.int .i64 0) 8 := inferInstanceAs (TyI Tryz.prog 3 1 (.int .i64 0) 8)
instance : TyU Tryz.prog 151 (.slice tI.e) := inferInstanceAs (TyU Tryz.prog 151 (.slice 3))
abbrev Fp := Fl × Nat
def tPf : Ty Fp := ⟨149, 1, fun r => [.pointer (some ⟨r.2, 0, none⟩)], fun _ => rfl, by decide, fun a v hv => by simp at hv; subst hv; rfl⟩
instance : TyU Tryz.prog tPf.e (.pointer 154) := inferInstanceAs (TyU Tryz.prog 149 (.pointer 154))
instance : TyI Tryz.prog tPf.e 1 (.pointer none) 8 := inferInstanceAs (TyI Tryz.prog 149 1 (.pointer none) 8)
instance : TyU Tryz.prog 135 (.slice tPf.e) := inferInstanceAs (TyU Tryz.prog 135 (.slice 149))
def fileAt (r : Fp) : HProp := hex fun x : SV × Nat => star (cel r.2 [.int .i64 (r.1.first : Int), x.1.v, .pointer (some ⟨x.2, 0, none⟩)] 154) (star (slc tI true x.1 (ends r.1.l)) (diskAt x.2 r.1.d))
theorem fileAt_mk {f : Fl} {q : Nat} {S : SV} {dp : Nat} {t : Nat} {fi : Nat} {es : List Nat} {d : Dk} {R : List HProp} (ht : t = 154) (h1 : fi = f.first) (h2 : es = ends f.l) (h3 : d = f.d) :
 Ent (cel q [.int .i64 (fi : Int), S.v, .pointer (some ⟨dp, 0, none⟩)] t :: slc tI true S es :: diskAt dp d :: R) (fileAt (f, q) :: R) := by
 subst ht h1 h2 h3
 refine Ent.mk fun E w h => Sat.mkex (S, dp) (Sat.mkstar ?_)
 have h1 : Sat E w (slc tI true S (ends f.l) :: diskAt dp f.d :: cel q [.int .i64 (f.first : Int), S.v, .pointer (some ⟨dp, 0, none⟩)] 154 :: R) := by
  have := Sat.two (A := []) h
  exact Sat.two (A := [_]) this
 have h2 := Sat.mkstar h1
 exact Sat.two (A := []) h2
attribute [local irreducible] J JL QOp JOp seqQ blockQ loopQ retQ slc cel hex star pur stars Does RV Ent pAt
attribute [local irreducible] fileAt
/-- The pointer to the last file. -/
def lastP (ps : List Fp) : Value := match ps.getLast? with
 | none => .pointer none
 | some r => .pointer (some ⟨r.2, 0, none⟩)
theorem lastP_snoc (ps : List Fp) (f : Fl) (q : Nat) : lastP (ps ++ [(f, q)]) = .pointer (some ⟨q, 0, none⟩) := by simp [lastP]
theorem fnext_ok (E : World) (f : Fl) (q : Nat) (h : f.next ≤ 10000000) : Does Tryz.prog E 67 [.pointer (some ⟨q, 0, none⟩)] [fileAt (f, q)] fun v L => v = .int .i64 (f.next : Int) ∧ L = [fileAt (f, q)] := by
 have h' : f.first + f.l.length ≤ 10000000 := h
 have hl := ends_len f.l
 refine Does.of Tryz.func67 rfl Tryz.ntmps67 rfl rfl fun F => ?_
 refine J.norm ?_
 unfold fileAt
 refine J.ex fun x => J.star (J.pick [1,0,2] rfl (J.norm (J.star (J.pick [2,0,1,3] rfl (J.norm ?_)))))
 dsimp only
 refine Sr ?_
 refine Lq (Q_assign rfl) ?_
 refine Ln ?_
 refine J_seq ?_
 refine DL [0,1,2,3,4,5,6,7,8,9,10] (.quiet 0 (.quiet 1 (.quiet 2 (.quiet 3 (.quiet 4 (.quiet 5 (.quiet 6 (.quiet 7 (.quiet 8 (.quiet 9 (.quiet 10 .done))))))))))) Tryz.mixed ?_
 refine Sq (Ent.refl _) rfl (Q_move rfl) ?_
 refine Sq (Ent.refl _) rfl (Q_nilCheck rfl) ?_
 refine Sq (Ent.refl _) rfl (Q_fa0 rfl) ?_
 refine Sq (Ent.refl _) rfl (Q_ld 0 rfl rfl rfl rfl) ?_
 refine Sq (Ent.refl _) rfl (Q_move rfl) ?_
 refine Sq (Ent.refl _) rfl (Q_nilCheck rfl) ?_
 refine Sq (Ent.refl _) rfl (Q_fa0 rfl) ?_
 refine Sq (Ent.refl _) rfl (Q_ld 0 rfl rfl rfl rfl) ?_
 refine Sq (Ent.refl _) rfl (Q_lenAt 1 rfl rfl) ?_
 refine Sq (Ent.refl _) rfl (Q_add rfl rfl (by first | exact IntWalk.i64_in _ (by omega) | exact IntWalk.u8_in _ (by omega) | exact IntWalk.u32_in _ (by omega) | exact IntWalk.u64_in _ (by omega) | rfl)) ?_
 refine Sq (Ent.refl _) rfl (Q_assign rfl) ?_
 refine S_nil ?_
 refine seqQ_normal ?_
 refine J_ret ?_
 refine retQ_ret _ [fileAt (f, q)] (.cons (RV_tmp rfl) .nil) ⟨?_, by unfold fileAt; rfl⟩ (by
  have := fileAt_mk (f := f) (q := q) (S := x.1) (dp := x.2) (R := [F]) rfl rfl rfl rfl
  exact this)
 simp only [Fl.next, hl, oneOf]
 congr 1
theorem last_ok (E : World) (p size sure : Nat) (S : SV) (ps : List Fp) (hps : ps.length ≤ 16) : Does Tryz.prog E 65 [.pointer (some ⟨p, 0, none⟩)] [cel p [.int .i64 (size : Int), .int .i64 (sure : Int), S.v] 137, slc tPf true S ps] fun v L => v = lastP ps ∧ L = [cel p [.int .i64 (size : Int), .int .i64 (sure : Int), S.v] 137, slc tPf true S ps] := by
 refine Does.of Tryz.func65 rfl Tryz.ntmps65 rfl rfl fun F => ?_
 refine J.norm ?_
 refine Sr ?_
 refine Lq (Q_assign rfl) ?_
 refine Ln ?_
 refine J_seq ?_
 refine Sr ?_
 refine Lq (Q_move rfl) ?_
 refine Lq (Q_peql rfl rfl) ?_
 refine Lq (Q_move rfl) ?_
 refine Lq (Q_move rfl) ?_
 refine Lq (Q_nilCheck rfl) ?_
 refine Lq (Q_fa0 rfl) ?_
 refine Lq (Q_ld 0 rfl rfl rfl rfl) ?_
 refine Lq (Q_lenAt 1 rfl rfl) ?_
 refine Lq (Q_eql rfl rfl) ?_
 refine Lq (Q_pickF rfl rfl) ?_
 refine Ln ?_
 rcases last_cases ps with rfl | ⟨a, ⟨f, q⟩, rfl⟩
 ·refine J_condD rfl (fun h => ?_) (fun h => absurd rfl h)
  refine Sr ?_
  refine Lq (Q_assign rfl) ?_
  refine Ln ?_
  refine J_ret ?_
  refine seqQ_ret ?_
  exact retQ_ret _ [cel p [.int .i64 (size : Int), .int .i64 (sure : Int), S.v] 137, slc tPf true S []] (.cons (RV_tmp rfl) .nil) ⟨rfl, rfl⟩ (Ent.refl _)
 ·refine J_condD rfl (fun h => absurd h (by simp; omega)) (fun h => ?_)
  have hlen : (a ++ [(f, q)]).length = a.length + 1 := by simp
  rw [hlen] at hps
  have hlt : a.length < (a ++ [(f, q)]).length := by omega
  have hg : (a ++ [(f, q)])[a.length] = (f, q) := by simp
  rw [lastP_snoc]
  refine J_skip ?_
  refine seqQ_normal ?_
  refine J_seq ?_
  refine DH [0,1] [0,1,2,3,4,5,6,7,8,9,10,11,12] (.quiet 0 (.quiet 1 (.quiet 2 (.quiet 3 (.quiet 4 (.quiet 5 (.quiet 6 (.quiet 7 (.quiet 8 (.quiet 9 (.quiet 10 (.quiet 11 (.quiet 12 .done))))))))))))) Tryz.mixed ?_
  refine Sq (Ent.re [0,1] rfl) rfl (Q_move rfl) ?_
  refine Sq (Ent.re [0,1] rfl) rfl (Q_nilCheck rfl) ?_
  refine Sq (Ent.re [0,1] rfl) rfl (Q_fa0 rfl) ?_
  refine Sq (Ent.re [0,1] rfl) rfl (Q_ld 0 rfl rfl rfl rfl) ?_
  refine Sq (Ent.re [0,1] rfl) rfl (Q_move rfl) ?_
  refine Sq (Ent.re [0,1] rfl) rfl (Q_nilCheck rfl) ?_
  refine Sq (Ent.re [0,1] rfl) rfl (Q_fa0 rfl) ?_
  refine Sq (Ent.re [0,1] rfl) rfl (Q_ld 0 rfl rfl rfl rfl) ?_
  refine Sq (Ent.re [0,1] rfl) rfl (Q_lenAt 1 rfl rfl) ?_
  refine Sq (Ent.re [0,1] rfl) rfl (Q_sub rfl rfl (IntWalk.i64_in _ (by omega))) ?_
  refine Sq (Ent.re [0,1] rfl) rfl (Q_ixAt 1 a.length rfl rfl rfl (by rw [hlen]; omega) hlt rfl) ?_
  refine Sq (Ent.re [0,1] rfl) rfl (Q_ldEAt 1 a.length 0 (v := .pointer (some ⟨q, 0, none⟩)) rfl rfl rfl rfl hlt (by decide) (by rw [hg]; rfl)) ?_
  refine Sq (Ent.re [0,1] rfl) rfl (Q_assign rfl) ?_
  refine S_nil ?_
  refine seqQ_normal ?_
  refine J_ret ?_
  exact retQ_ret _ [cel p [.int .i64 (size : Int), .int .i64 (sure : Int), S.v] 137, slc tPf true S (a ++ [(f, q)])] (.cons (RV_tmp rfl) .nil) ⟨rfl, rfl⟩ (Ent.refl _)
end Go.Proofs
/- A file's disk cut, its records read, its index made anew. -/
set_option autoImplicit false
namespace Go.Proofs
open Go.SL
attribute [local irreducible] J JL QOp JOp seqQ blockQ loopQ retQ slc cel hex star pur stars Does RV Ent pAt
theorem J_file {E : World} {n : Nat} {c : Code} {Q : Post} {ρ : Env} {L : List HProp} {f : Fl} {q : Nat} (h : ∀ (S : SV) (dp : Nat), J Tryz.prog E n c Q ρ (cel q [.int .i64 (f.first : Int), S.v, .pointer (some ⟨dp, 0, none⟩)] 154 :: slc tI true S (ends f.l) :: diskAt dp f.d :: L)) : J Tryz.prog E n c Q ρ (fileAt (f, q) :: L) := by
 unfold fileAt
 refine J.ex fun x => J.star ?_
 refine J.ent (L' := cel q [.int .i64 (f.first : Int), x.1.v, .pointer (some ⟨x.2, 0, none⟩)] 154 :: slc tI true x.1 (ends f.l) :: diskAt x.2 f.d :: L) (Ent.mk fun E w hs => ?_) (h x.1 x.2)
 have h1 := Sat.two (A := []) hs
 have h2 := Sat.star h1
 have h3 : Sat E w (slc tI true x.1 (ends f.l) :: cel q [.int .i64 (f.first : Int), x.1.v, .pointer (some ⟨x.2, 0, none⟩)] 154 :: diskAt x.2 f.d :: L) := Sat.two (A := [_]) h2
 exact Sat.two (A := []) h3
attribute [local irreducible] fileAt diskAt
def cutD (d : Dk) (k : Nat) : Dk := if k < d.b.length then ⟨d.b.take k, min d.s k⟩ else d
theorem cut_ok (E : World) (p k : Nat) (d : Dk) (hd : d.b.length ≤ 65536) (hs : d.s ≤ d.b.length) : Does Tryz.prog E 100 [.pointer (some ⟨p, 0, none⟩), .int .i64 (k : Int)] [diskAt p d] fun v L => v = .tuple #[] ∧ L = [diskAt p (cutD d k)] := by
 refine Does.of Tryz.func100 rfl Tryz.ntmps100 rfl rfl fun F => ?_
 refine J.norm ?_
 unfold diskAt
 refine J.ex fun S => J.star ?_
 refine Sr ?_
 refine Lq (Q_move rfl) ?_
 refine Lq ((Q_pneq rfl rfl).as (v' := .bool true) rfl) ?_
 refine Lq (Q_move rfl) ?_
 refine Lq (Q_move rfl) ?_
 refine Lq ((Q_geq rfl rfl).as (v' := .bool true) (congrArg Value.bool (decide_eq_true (by omega)))) ?_
 refine Lq (Q_pickT rfl rfl) ?_
 refine Lq (Q_move rfl) ?_
 refine Lq (Q_move rfl) ?_
 refine Lq (Q_move rfl) ?_
 refine Lq (Q_nilCheck rfl) ?_
 refine Lq (Q_fa0 rfl) ?_
 refine Lq (Q_ld 0 rfl rfl rfl rfl) ?_
 refine Lq (Q_lenAt 1 rfl rfl) ?_
 refine Lq (Q_lss rfl rfl) ?_
 refine Lq (Q_pickT rfl rfl) ?_
 refine Ln ?_
 refine J_condD rfl (fun h => ?_) (fun h => ?_)
 ·have hlt : k < d.b.length := by omega
  have e : cutD d k = ⟨d.b.take k, min d.s k⟩ := by unfold cutD; rw [if_pos hlt]
  refine Sr ?_
  refine Lq (Q_move rfl) ?_
  refine Lq (Q_move rfl) ?_
  refine Lq (Q_nilCheck rfl) ?_
  refine Lq (Q_fa0 rfl) ?_
  refine Lq (Q_ld 0 rfl rfl rfl rfl) ?_
  refine Lq (Q_move rfl) ?_
  refine Lq (Q_slH (τ := tB) k (fun w h => h.rd 1 rfl) rfl rfl rfl (by omega) rfl) ?_
  refine Lq (Q_nilCheck rfl) ?_
  refine Lq (Q_fa0 rfl) ?_
  refine L_s rfl rfl (O_st1 0 rfl rfl rfl rfl rfl ?_)
  refine JL.norm ?_
  refine Ln ?_
  refine J_region ?_
  refine Lq (Q_move rfl) ?_
  refine Lq (Q_move rfl) ?_
  refine Lq (Q_nilCheck rfl) ?_
  refine Lq (Q_fa0 rfl) ?_
  refine Lq (Q_ld 0 rfl rfl rfl rfl) ?_
  refine Lq (Q_move rfl) ?_
  refine Lq (Q_min2 rfl rfl) ?_
  refine Lq (Q_nilCheck rfl) ?_
  refine Lq (Q_fa0 rfl) ?_
  refine L_s rfl rfl (O_st1 0 rfl rfl rfl rfl rfl ?_)
  refine JL.norm ?_
  refine JL_nil ?_
  refine retQ_normal [] [diskAt p (cutD d k)] .nil ⟨rfl, by unfold diskAt; rfl⟩ ?_
  rw [e]
  have hm : min (d.s : Int) (k : Int) = ((min d.s k : Nat) : Int) := by omega
  rw [hm]
  exact (Ent.sub 1 0 k rfl (by omega) (by omega)).trans (diskAt_mk (d := ⟨d.b.take k, min d.s k⟩) (S := S.sub 1 0 k) rfl)
 ·have e : cutD d k = d := by unfold cutD; rw [if_neg (by omega)]
  rw [e]
  refine J_skip ?_
  refine retQ_normal [] [diskAt p d] .nil ⟨rfl, by unfold diskAt; rfl⟩ ?_
  exact diskAt_mk rfl
end Go.Proofs
/- A file's records read, its index made anew. -/
set_option autoImplicit false
namespace Go.Proofs
open Go.SL
attribute [local irreducible] J JL QOp JOp seqQ blockQ loopQ retQ slc cel hex star pur stars Does RV Ent pAt
attribute [local irreducible] fileAt diskAt
theorem fget_ok (E : World) (f : Fl) (q i : Nat) (h : i < f.l.length) (ht : (text f.l).length ≤ 8192) (hl : ∀ t ∈ f.l, t.length ≤ 4096) : Does Tryz.prog E 79 [.pointer (some ⟨q, 0, none⟩), .int .i64 (i : Int)] [fileAt (f, q)] fun v L => v = str f.l[i] ∧ L = [fileAt (f, q)] := by
 have he := ends_len f.l
 have hlen := text_len f.l
 have hie : i < (ends f.l).length := by omega
 have hgi : (ends f.l)[i] = (text (f.l.take (i + 1))).length := ends_get f.l i hie
 have h1 := text_take_le f.l (i + 1)
 have h0 := text_take_le f.l i
 have h01 : (text (f.l.take i)).length ≤ (text (f.l.take (i + 1))).length := by
  rw [List.take_succ_eq_append_getElem h, text_snoc, List.length_append]; omega
 have hc := text_cut f.l i h
 have hrn : recV (frame f.l[i]) = .tuple #[str f.l[i], .int .i64 ((8 + f.l[i].length : Nat) : Int), .int .i64 0] := by
  have := recNext_frame f.l[i] [] (hl _ (List.getElem_mem h))
  rw [List.append_nil] at this
  unfold recV; rw [this]
 have hn := next_ok E (frame f.l[i]) (by rw [frame_len]; have := hl _ (List.getElem_mem h); omega)
 rw [hrn] at hn
 have htx := fun dp => text_ok E dp f.d
 have hdb : f.d.b = text f.l := rfl
 rw [hdb] at htx
 refine Does.of Tryz.func79 rfl Tryz.ntmps79 rfl rfl fun F => ?_
 refine J.norm ?_
 refine J_file fun S dp => ?_
 refine Sr ?_
 refine Lq (Q_assign rfl) ?_
 refine Ln ?_
 refine Sr ?_
 refine Lq (Q_assign rfl) ?_
 refine Ln ?_
 refine J_seq ?_
 refine J_seq ?_
 by_cases h2 : i = 0
 ·subst h2
  refine J_region ?_
  refine Lq (Q_move rfl) ?_
  refine Lq ((Q_gtr rfl rfl).as (v' := .bool false) rfl) ?_
  refine Ln ?_
  refine J_condF rfl ?_
  refine J_skip ?_
  refine seqQ_normal ?_
  refine J_seq ?_
  have e0 : (text (f.l.take 0)).length = 0 := rfl
  rw [e0] at hc
  refine DH [0,1] [0,1,2,3,5,6,7,8,9,10,11,12,13,15,16,17,18,19,20,21] (.quiet 0 (.quiet 1 (.quiet 2 (.quiet 3 (.quiet 5 (.quiet 6 (.quiet 7 (.quiet 8 (.quiet 9 (.quiet 10 (.quiet 11 (.quiet 12 (.loud 4 (.quiet 13 (.loud 14 (.quiet 15 (.quiet 16 (.quiet 17 (.quiet 18 (.quiet 19 (.quiet 20 (.quiet 21 .done)))))))))))))))))))))) Tryz.mixed ?_
  refine Sq (Ent.re [0,1] rfl) rfl (Q_move rfl) ?_
  refine Sq (Ent.re [0,1] rfl) rfl (Q_nilCheck rfl) ?_
  refine Sq (Ent.re [0,1] rfl) rfl (Q_fa0 rfl) ?_
  refine Sq (Ent.re [0,1] rfl) rfl (Q_ld 0 rfl rfl rfl rfl) ?_
  refine Sq (Ent.re [0,1] rfl) rfl (Q_move rfl) ?_
  refine Sq (Ent.re [0,1] rfl) rfl (Q_move rfl) ?_
  refine Sq (Ent.re [0,1] rfl) rfl (Q_nilCheck rfl) ?_
  refine Sq (Ent.re [0,1] rfl) rfl (Q_fa0 rfl) ?_
  refine Sq (Ent.re [0,1] rfl) rfl (Q_ld 0 rfl rfl rfl rfl) ?_
  refine Sq (Ent.re [0,1] rfl) rfl (Q_move rfl) ?_
  refine Sq (Ent.re [0,1] rfl) rfl (Q_ixAt 1 0 rfl rfl rfl rfl hie rfl) ?_
  refine Sq (Ent.re [0,1] rfl) rfl (Q_ldEAt 1 0 0 (v := .int .i64 ((text (f.l.take (0 + 1))).length : Int)) rfl rfl rfl rfl hie (by decide) (by rw [hgi]; rfl)) ?_
  refine S_o rfl rfl rfl rfl (O_call [2] [0,1,3] (htx dp) rfl rfl ?_)
  (rintro _ _ ⟨rfl, rfl⟩; refine ⟨_, fun _ => ⟨Ent.reN [1,2] rfl, Ent.refl _⟩, ?_⟩)
  refine JS.norm ?_
  refine Sq (Ent.re [1,2] rfl) rfl ((Q_ssLH 0 (text (f.l.take (0 + 1))).length rfl rfl rfl rfl rfl (by omega) h1).as (congrArg str hc)) ?_
  refine S_o rfl rfl rfl rfl (O_call [] [0,1,2,3] hn rfl rfl ?_)
  (rintro _ _ ⟨rfl, rfl⟩; refine ⟨_, fun _ => ⟨Ent.reN [1,2] rfl, Ent.refl _⟩, ?_⟩)
  refine JS.norm ?_
  refine Sq (Ent.re [1,2] rfl) rfl (Q_move rfl) ?_
  refine Sq (Ent.re [1,2] rfl) rfl (Q_extract (v := str f.l[0]) rfl rfl) ?_
  refine Sq (Ent.re [1,2] rfl) rfl (Q_extract (v := .int .i64 ((8 + f.l[0].length : Nat) : Int)) rfl rfl) ?_
  refine Sq (Ent.re [1,2] rfl) rfl (Q_extract (v := .int .i64 0) rfl rfl) ?_
  refine Sq (Ent.re [1,2] rfl) rfl (Q_assign rfl) ?_
  refine Sq (Ent.re [1,2] rfl) rfl (Q_assign rfl) ?_
  refine Sq (Ent.re [1,2] rfl) rfl (Q_assign rfl) ?_
  refine S_nil ?_
  refine seqQ_normal ?_
  refine Sr ?_
  refine Lq (Q_move rfl) ?_
  refine Lq (Q_assign rfl) ?_
  refine Ln ?_
  refine J_ret ?_
  exact retQ_ret _ [fileAt (f, q)] (.cons (RV_tmp rfl) .nil) ⟨rfl, rfl⟩ ((Ent.re [1,2,0,3] rfl).trans (fileAt_mk rfl rfl rfl rfl))
 ·obtain ⟨j, rfl⟩ : ∃ j, i = j + 1 := ⟨i - 1, by omega⟩
  have hje : j < (ends f.l).length := by omega
  have hgj : (ends f.l)[j] = (text (f.l.take (j + 1))).length := ends_get f.l j hje
  refine J_region ?_
  refine Lq (Q_move rfl) ?_
  refine Lq ((Q_gtr rfl rfl).as (v' := .bool true) (congrArg Value.bool (decide_eq_true (by omega)))) ?_
  refine Ln ?_
  refine J_condT rfl ?_
  refine J_region ?_
  refine Lq (Q_move rfl) ?_
  refine Lq (Q_nilCheck rfl) ?_
  refine Lq (Q_fa0 rfl) ?_
  refine Lq (Q_ld 0 rfl rfl rfl rfl) ?_
  refine Lq (Q_move rfl) ?_
  refine Lq (Q_sub rfl rfl (by first | exact IntWalk.i64_in _ (by omega) | exact IntWalk.u8_in _ (by omega) | exact IntWalk.u32_in _ (by omega) | exact IntWalk.u64_in _ (by omega) | rfl)) ?_
  refine Lq (Q_ixAt 1 j rfl rfl rfl (by omega) hje rfl) ?_
  refine Lq (Q_ldEAt 1 j 0 (v := .int .i64 ((text (f.l.take (j + 1))).length : Int)) rfl rfl rfl rfl hje (by decide) (by rw [hgj]; rfl)) ?_
  refine Lq (Q_assign rfl) ?_
  refine Ln ?_
  refine J_seq ?_
  refine DH [0,1] [0,1,2,3,5,6,7,8,9,10,11,12,13,15,16,17,18,19,20,21] (.quiet 0 (.quiet 1 (.quiet 2 (.quiet 3 (.quiet 5 (.quiet 6 (.quiet 7 (.quiet 8 (.quiet 9 (.quiet 10 (.quiet 11 (.quiet 12 (.loud 4 (.quiet 13 (.loud 14 (.quiet 15 (.quiet 16 (.quiet 17 (.quiet 18 (.quiet 19 (.quiet 20 (.quiet 21 .done)))))))))))))))))))))) Tryz.mixed ?_
  refine Sq (Ent.re [0,1] rfl) rfl (Q_move rfl) ?_
  refine Sq (Ent.re [0,1] rfl) rfl (Q_nilCheck rfl) ?_
  refine Sq (Ent.re [0,1] rfl) rfl (Q_fa0 rfl) ?_
  refine Sq (Ent.re [0,1] rfl) rfl (Q_ld 0 rfl rfl rfl rfl) ?_
  refine Sq (Ent.re [0,1] rfl) rfl (Q_move rfl) ?_
  refine Sq (Ent.re [0,1] rfl) rfl (Q_move rfl) ?_
  refine Sq (Ent.re [0,1] rfl) rfl (Q_nilCheck rfl) ?_
  refine Sq (Ent.re [0,1] rfl) rfl (Q_fa0 rfl) ?_
  refine Sq (Ent.re [0,1] rfl) rfl (Q_ld 0 rfl rfl rfl rfl) ?_
  refine Sq (Ent.re [0,1] rfl) rfl (Q_move rfl) ?_
  refine Sq (Ent.re [0,1] rfl) rfl (Q_ixAt 1 (j + 1) rfl rfl rfl rfl hie rfl) ?_
  refine Sq (Ent.re [0,1] rfl) rfl (Q_ldEAt 1 (j + 1) 0 (v := .int .i64 ((text (f.l.take (j + 1 + 1))).length : Int)) rfl rfl rfl rfl hie (by decide) (by rw [hgi]; rfl)) ?_
  refine S_o rfl rfl rfl rfl (O_call [2] [0,1,3] (htx dp) rfl rfl ?_)
  (rintro _ _ ⟨rfl, rfl⟩; refine ⟨_, fun _ => ⟨Ent.reN [1,2] rfl, Ent.refl _⟩, ?_⟩)
  refine JS.norm ?_
  refine Sq (Ent.re [1,2] rfl) rfl ((Q_ssLH (text (f.l.take (j + 1))).length (text (f.l.take (j + 1 + 1))).length rfl rfl rfl rfl rfl h01 h1).as (congrArg str hc)) ?_
  refine S_o rfl rfl rfl rfl (O_call [] [0,1,2,3] hn rfl rfl ?_)
  (rintro _ _ ⟨rfl, rfl⟩; refine ⟨_, fun _ => ⟨Ent.reN [1,2] rfl, Ent.refl _⟩, ?_⟩)
  refine JS.norm ?_
  refine Sq (Ent.re [1,2] rfl) rfl (Q_move rfl) ?_
  refine Sq (Ent.re [1,2] rfl) rfl (Q_extract (v := str f.l[j + 1]) rfl rfl) ?_
  refine Sq (Ent.re [1,2] rfl) rfl (Q_extract (v := .int .i64 ((8 + f.l[j + 1].length : Nat) : Int)) rfl rfl) ?_
  refine Sq (Ent.re [1,2] rfl) rfl (Q_extract (v := .int .i64 0) rfl rfl) ?_
  refine Sq (Ent.re [1,2] rfl) rfl (Q_assign rfl) ?_
  refine Sq (Ent.re [1,2] rfl) rfl (Q_assign rfl) ?_
  refine Sq (Ent.re [1,2] rfl) rfl (Q_assign rfl) ?_
  refine S_nil ?_
  refine seqQ_normal ?_
  refine Sr ?_
  refine Lq (Q_move rfl) ?_
  refine Lq (Q_assign rfl) ?_
  refine Ln ?_
  refine J_ret ?_
  exact retQ_ret _ [fileAt (f, q)] (.cons (RV_tmp rfl) .nil) ⟨rfl, rfl⟩ ((Ent.re [1,2,0,3] rfl).trans (fileAt_mk rfl rfl rfl rfl))
theorem index_ok (E : World) (q dp fi : Nat) (S : SV) (es : List Nat) (d : Dk) (hd : d.b.length ≤ 8192) (hs : d.s = d.b.length) :
 Does Tryz.prog E 76 [.pointer (some ⟨q, 0, none⟩)] [cel q [.int .i64 (fi : Int), S.v, .pointer (some ⟨dp, 0, none⟩)] 154, slc tI true S es, diskAt dp d] fun v L => v = .tuple #[] ∧ L = [fileAt (⟨fi, (prefixR d.b).1, (prefixR d.b).2⟩, q)] := by
 obtain ⟨p1, p2, p3⟩ := prefixR_text _ d.b (Nat.le_refl _)
 have hpre := prefix_ok E d.b (by omega)
 have p4 : (text (prefixR d.b).1).length = (prefixR d.b).2 := by rw [p1, List.length_take]; omega
 have p5 := text_len (prefixR d.b).1
 generalize hl' : (prefixR d.b).1 = l at *
 generalize hm' : (prefixR d.b).2 = m at *
 have hcut : cutD d m = (⟨fi, l, m⟩ : Fl).d := by
  unfold cutD Fl.d
  split
  ·rw [p1, hs]; congr 1; exact Nat.min_eq_right (by omega)
  ·have : m = d.b.length := by omega
   rw [p1, this, List.take_length, ← hs]
 refine Does.of Tryz.func76 rfl Tryz.ntmps76 rfl rfl fun F => ?_
 refine J.norm ?_
 refine Sr ?_
 refine Lq (Q_move rfl) ?_
 refine Lq (Q_nilCheck rfl) ?_
 refine Lq (Q_fa0 rfl) ?_
 refine Lq (Q_ld 0 rfl rfl rfl rfl) ?_
 refine L_o rfl rfl rfl (O_call [2] [0,1,3] (text_ok E dp d) rfl rfl ?_)
 rintro _ _ ⟨rfl, rfl⟩
 refine JL.norm ?_
 refine L_o rfl rfl rfl (O_call [] [0,1,2,3] hpre rfl rfl ?_)
 rintro _ _ ⟨T, rfl, rfl⟩
 refine JL.norm ?_
 refine Lq (Q_move rfl) ?_
 refine Lq (Q_extract (v := T.v) rfl rfl) ?_
 refine Lq (Q_extract (v := .int .i64 (m : Int)) rfl rfl) ?_
 refine Lq (Q_assign rfl) ?_
 refine Lq (Q_assign rfl) ?_
 refine Ln ?_
 refine Sr ?_
 refine Lq (Q_move rfl) ?_
 refine Lq (Q_nilCheck rfl) ?_
 refine Lq (Q_fa0 rfl) ?_
 refine L_s rfl rfl (O_st1 2 rfl rfl rfl rfl rfl ?_)
 refine JL.norm ?_
 refine Ln ?_
 refine Sr ?_
 refine Lq (Q_assign rfl) ?_
 refine Ln ?_
 refine J_seq ?_
 refine Sr ?_
 refine Lq (Q_move rfl) ?_
 refine Lq (Q_lenAt 0 rfl rfl) ?_
 refine Lq (Q_move rfl) ?_
 refine Ln ?_
 refine J_block ?_
 refine J.ent (Ent.mk fun _ _ h => (h.lay_nil tI true : Sat _ _ (slc tI true SV.nil [] :: _))) ?_
 refine J_loop (fun i : Nat × SV => i.1 ≤ l.length) (fun i => [(0, .pointer (some ⟨q, 0, none⟩)), (4, .int .i64 ((text (l.take i.1)).length : Int)), (21, T.v), (22, .int .i64 (l.length : Int)), (23, .int .i64 (i.1 : Int))])
  (fun i => [slc tI true i.2 (ends (l.take i.1)), cel q [.int .i64 (fi : Int), i.2.v, .pointer (some ⟨dp, 0, none⟩)] 154, slc tS true T l, diskAt dp d, F]) (fun i => l.length - i.1) (0, SV.nil) (by simp) ⟨rfl, rfl, rfl, rfl, rfl, trivial⟩ (Ent.re [0,3,1,2,5] rfl) ?_
 rintro ⟨k, B⟩ hk
 dsimp only at hk ⊢
 refine Sr ?_
 refine Lq (Q_lss rfl rfl) ?_
 refine Ln ?_
 refine J_seq ?_
 refine J_condD rfl (fun h => ?_) (fun h => ?_)
 ·have hlt : k < l.length := by omega
  have hfr := frame_ok E l[k]
  rw [show frameV l[k] = .tuple #[str (frame l[k]), .int .i64 0] by unfold frameV; rw [if_neg (by have := p3 _ (List.getElem_mem hlt); omega)]] at hfr
  have hsn : text (l.take (k + 1)) = text (l.take k) ++ frame l[k] := by rw [List.take_succ_eq_append_getElem hlt, text_snoc]
  have hsl : (text (l.take (k + 1))).length = (text (l.take k)).length + (frame l[k]).length := by rw [hsn, List.length_append]
  have hen : ends (l.take (k + 1)) = ends (l.take k) ++ [(text (l.take k)).length + (frame l[k]).length] := by
   rw [List.take_succ_eq_append_getElem hlt, ends_snoc, ← List.take_succ_eq_append_getElem hlt, hsl]
  have hb1 := text_take_le l (k + 1)
  have hel : (ends (l.take k)).length ≤ 8192 := by rw [ends_len, List.length_take]; omega
  refine J_skip ?_
  refine seqQ_normal ?_
  refine J_seq ?_
  refine J_block ?_
  refine Sr ?_
  refine Lq (Q_ixAt 2 k rfl rfl rfl rfl hlt rfl) ?_
  refine Lq (Q_ldEAt 2 k 0 (v := str l[k]) rfl rfl rfl rfl hlt (by decide) rfl) ?_
  refine Lq (Q_assign rfl) ?_
  refine Ln ?_
  refine Sr ?_
  refine Lq (Q_move rfl) ?_
  refine L_o rfl rfl rfl (O_call [] [0,1,2,3,4] hfr rfl rfl ?_)
  rintro _ _ ⟨rfl, rfl⟩
  refine JL.norm ?_
  refine Lq (Q_move rfl) ?_
  refine Lq (Q_extract (v := str (frame l[k])) rfl rfl) ?_
  refine Lq (Q_extract (v := .int .i64 0) rfl rfl) ?_
  refine Lq (Q_assign rfl) ?_
  refine Lq (Q_assign rfl) ?_
  refine Ln ?_
  refine Sr ?_
  refine Lq (Q_move rfl) ?_
  refine Lq (Q_move rfl) ?_
  refine Lq (Q_slen rfl) ?_
  refine Lq (Q_add rfl rfl (by first | exact IntWalk.i64_in _ (by omega) | exact IntWalk.u8_in _ (by omega) | exact IntWalk.u32_in _ (by omega) | exact IntWalk.u64_in _ (by omega) | rfl)) ?_
  refine Lq (Q_assign rfl) ?_
  refine Ln ?_
  refine J_region ?_
  refine Lq (Q_move rfl) ?_
  refine Lq (Q_move rfl) ?_
  refine Lq (Q_nilCheck rfl) ?_
  refine Lq (Q_fa0 rfl) ?_
  refine Lq (Q_ld 1 rfl rfl rfl rfl) ?_
  refine Lq (Q_move rfl) ?_
  refine L_o rfl rfl rfl (O_litP (τ := tI) (m := 1) (sz := 1) [(text (l.take k)).length + (frame l[k]).length] rfl rfl rfl rfl rfl rfl (by decide) (fun S1 => ?_))
  refine JL.norm ?_
  refine L_o rfl rfl rfl (O_app (τ := tI) 1 rfl (fun w h => h.rd 0 rfl) rfl rfl rfl rfl (by simp only [List.length_singleton]; omega) (by decide) (fun S2 => ?_))
  refine JL.norm ?_
  refine Lq (Q_nilCheck rfl) ?_
  refine Lq (Q_fa0 rfl) ?_
  refine L_s rfl rfl (O_st1 2 rfl rfl rfl rfl rfl ?_)
  refine JL.norm ?_
  refine JL_nil ?_
  refine blockQ_normal ?_
  refine seqQ_normal ?_
  refine J_region ?_
  refine Lq (Q_add rfl rfl (by first | exact IntWalk.i64_in _ (by omega) | exact IntWalk.u8_in _ (by omega) | exact IntWalk.u32_in _ (by omega) | exact IntWalk.u64_in _ (by omega) | rfl)) ?_
  refine Lq (Q_move rfl) ?_
  refine JL_nil ?_
  exact loopQ_normal (k + 1, S2) hlt (by simp only; omega) ⟨rfl, by rw [hsl]; rfl, rfl, rfl, rfl, trivial⟩ (by simp only; rw [hen]; exact Ent.re [1,2,3,4,5] rfl)
 ·obtain rfl : k = l.length := by omega
  rw [List.take_length, p4]
  refine J_exit ?_
  refine seqQ_exit ?_
  refine loopQ_exit ?_
  refine blockQ_hit ?_
  refine seqQ_normal ?_
  refine J_region ?_
  refine Lq (Q_move rfl) ?_
  refine Lq (Q_nilCheck rfl) ?_
  refine Lq (Q_fa0 rfl) ?_
  refine Lq (Q_ld 1 rfl rfl rfl rfl) ?_
  refine Lq (Q_move rfl) ?_
  refine L_o rfl rfl rfl (O_call [3] [0,1,2,4] (cut_ok E dp m d (by omega) (by omega)) rfl rfl ?_)
  rintro _ _ ⟨rfl, rfl⟩
  refine JL.norm ?_
  refine JL_nil ?_
  rw [hcut]
  exact retQ_normal [] [fileAt (⟨fi, l, m⟩, q)] .nil ⟨rfl, rfl⟩ ((Ent.re [2,1,0,4] rfl).trans (fileAt_mk rfl rfl rfl rfl))
end Go.Proofs
/- A log in files: its numbers, a sync, a crash. -/
set_option autoImplicit false
namespace Go.Proofs
open Go.SL
abbrev segC (p size sure : Nat) (S : SV) : HProp := cel p [.int .i64 (size : Int), .int .i64 (sure : Int), S.v] 137
abbrev fsC (ps : List Fp) : HProp := stars (ps.map fileAt)
def onP (ps : List Fp) (u : Fl → Fl) : List Fp := match ps.getLast? with
 | none => []
 | some r => ps.dropLast ++ [(u r.1, r.2)]
theorem onP_snoc (a : List Fp) (f : Fl) (q : Nat) (u : Fl → Fl) : onP (a ++ [(f, q)]) u = a ++ [(u f, q)] := by simp [onP]
theorem onP_fst (ps : List Fp) (u : Fl → Fl) : (onP ps u).map (·.1) = onLast (ps.map (·.1)) u := by
 rcases last_cases ps with rfl | ⟨a, ⟨f, q⟩, rfl⟩
 ·rfl
 ·simp only [onP_snoc, List.map_append, List.map_cons, List.map_nil, onLast_snoc]
theorem onP_len (ps : List Fp) (u : Fl → Fl) : (onP ps u).length = ps.length := by
 rcases last_cases ps with rfl | ⟨a, ⟨f, q⟩, rfl⟩
 ·rfl
 ·rw [onP_snoc]; simp
theorem slc_ptrs {full : Bool} {S : SV} {ps qs : List Fp} (h : ps.map (·.2) = qs.map (·.2)) : slc tPf full S ps = slc tPf full S qs := by
 have e1 : tPf.flat ps = tPf.flat qs := by
  have : ∀ l : List Fp, tPf.flat l = (l.map (·.2)).map fun q => Value.pointer (some ⟨q, 0, none⟩) := by
   intro l
   induction l with
   | nil => rfl
   | cons r l ih => rw [tPf.flat_cons, ih]; rfl
  rw [this, this, h]
 have e2 : ps.length = qs.length := by have := congrArg List.length h; simpa using this
 unfold slc
 rw [e1, e2]
theorem slc_onP {full : Bool} {S : SV} (a : List Fp) (f f' : Fl) (q : Nat) : slc tPf full S (a ++ [(f, q)]) = slc tPf full S (a ++ [(f', q)]) := slc_ptrs (by simp)
attribute [local irreducible] J JL QOp JOp seqQ blockQ loopQ retQ slc cel hex star pur stars Does RV Ent pAt
attribute [local irreducible] fileAt diskAt
theorem snext_ok (E : World) (p size sure : Nat) (S : SV) (ps : List Fp) (hps : ps.length ≤ 16) (hn : nextOf (ps.map (·.1)) ≤ 10000000) :
 Does Tryz.prog E 43 [.pointer (some ⟨p, 0, none⟩)] [segC p size sure S, slc tPf true S ps, fsC ps] fun v L => v = .int .i64 (nextOf (ps.map (·.1)) : Int) ∧ L = [segC p size sure S, slc tPf true S ps, fsC ps] := by
 have hl := last_ok E p size sure S ps hps
 refine Does.of Tryz.func43 rfl Tryz.ntmps43 rfl rfl fun F => ?_
 refine J.norm ?_
 rcases last_cases ps with rfl | ⟨a, ⟨f, q⟩, rfl⟩
 ·rw [show lastP [] = .pointer none from rfl] at hl
  refine Sr ?_
  refine Lq (Q_assign rfl) ?_
  refine Ln ?_
  refine J_seq ?_
  refine Sr ?_
  refine Lq (Q_move rfl) ?_
  refine L_o rfl rfl rfl (O_call [0,1] [2,3] hl rfl rfl ?_)
  rintro _ _ ⟨rfl, rfl⟩
  refine JL.norm ?_
  refine Lq (Q_assign rfl) ?_
  refine Ln ?_
  refine Sr ?_
  refine Lq (Q_move rfl) ?_
  refine Lq ((Q_pneq rfl rfl).as (v' := .bool false) rfl) ?_
  refine Ln ?_
  refine J_condF rfl ?_
  refine J_skip ?_
  refine seqQ_normal ?_
  refine Sr ?_
  refine Lq (Q_assign rfl) ?_
  refine Ln ?_
  refine J_ret ?_
  exact retQ_ret _ [segC p size sure S, slc tPf true S [], fsC []] (.cons (RV_tmp rfl) .nil) ⟨rfl, rfl⟩ (Ent.refl _)
 ·rw [lastP_snoc] at hl
  rw [List.map_append, List.map_cons, List.map_nil, nextOf_snoc] at hn ⊢
  refine Sr ?_
  refine Lq (Q_assign rfl) ?_
  refine Ln ?_
  refine J_seq ?_
  refine Sr ?_
  refine Lq (Q_move rfl) ?_
  refine L_o rfl rfl rfl (O_call [0,1] [2,3] hl rfl rfl ?_)
  rintro _ _ ⟨rfl, rfl⟩
  refine JL.norm ?_
  refine Lq (Q_assign rfl) ?_
  refine Ln ?_
  refine Sr ?_
  refine Lq (Q_move rfl) ?_
  refine Lq ((Q_pneq rfl rfl).as (v' := .bool true) rfl) ?_
  refine Ln ?_
  refine J_condT rfl ?_
  refine J_seq ?_
  refine J.ent ((Ent.re [2,0,1,3] rfl).trans (Ent.last_out fileAt a (f, q))) ?_
  refine J_region ?_
  refine Lq (Q_move rfl) ?_
  refine L_o rfl rfl rfl (O_call [0] [1,2,3,4] (fnext_ok E f q hn) rfl rfl ?_)
  rintro _ _ ⟨rfl, rfl⟩
  refine JL.norm ?_
  refine Lq (Q_assign rfl) ?_
  refine Ln ?_
  refine J_ret ?_
  refine seqQ_ret ?_
  exact retQ_ret _ [segC p size sure S, slc tPf true S (a ++ [(f, q)]), fsC (a ++ [(f, q)])] (.cons (RV_tmp rfl) .nil) ⟨rfl, rfl⟩ ((Ent.last_in fileAt a (f, q)).trans (Ent.re [1,2,0,3] rfl))
theorem sync_ok (E : World) (p size sure : Nat) (S : SV) (ps : List Fp) (hps : ps.length ≤ 16) (hn : nextOf (ps.map (·.1)) ≤ 10000000) (hok : ∀ r ∈ ps, (text r.1.l).length ≤ 8192 ∧ r.1.s ≤ (text r.1.l).length) :
 Does Tryz.prog E 42 [.pointer (some ⟨p, 0, none⟩)] [segC p size sure S, slc tPf true S ps, fsC ps] fun v L => v = .tuple #[] ∧ L = [segC p size (if ps = [] then sure else nextOf (ps.map (·.1))) S, slc tPf true S (onP ps syncF), fsC (onP ps syncF)] := by
 have hl := last_ok E p size sure S ps hps
 refine Does.of Tryz.func42 rfl Tryz.ntmps42 rfl rfl fun F => ?_
 refine J.norm ?_
 rcases last_cases ps with rfl | ⟨a, ⟨f, q⟩, rfl⟩
 ·rw [show lastP [] = .pointer none from rfl] at hl
  rw [if_pos rfl, show onP [] syncF = [] from rfl]
  refine Sr ?_
  refine Lq (Q_move rfl) ?_
  refine L_o rfl rfl rfl (O_call [0,1] [2,3] hl rfl rfl ?_)
  rintro _ _ ⟨rfl, rfl⟩
  refine JL.norm ?_
  refine Lq (Q_assign rfl) ?_
  refine Ln ?_
  refine Sr ?_
  refine Lq (Q_move rfl) ?_
  refine Lq ((Q_pneq rfl rfl).as (v' := .bool false) rfl) ?_
  refine Ln ?_
  refine J_condF rfl ?_
  refine J_skip ?_
  exact retQ_normal [] [segC p size sure S, slc tPf true S [], fsC []] .nil ⟨rfl, rfl⟩ (Ent.refl _)
 ·rw [lastP_snoc] at hl
  rw [List.map_append, List.map_cons, List.map_nil, nextOf_snoc] at hn ⊢
  obtain ⟨hk1, hk2⟩ := hok (f, q) (by simp)
  rw [if_neg (by simp), onP_snoc]
  have hdo := fun dp => do_ok E dp f.d ⟨2, [], 0⟩ (by decide) ⟨hk2, Nat.le_trans hk1 (by decide)⟩
  have hd1 : (doD f.d ⟨2, [], 0⟩).2 = 0 := rfl
  have hd2 : (doD f.d ⟨2, [], 0⟩).1 = (syncF f).d := rfl
  rw [hd1, hd2] at hdo
  refine Sr ?_
  refine Lq (Q_move rfl) ?_
  refine L_o rfl rfl rfl (O_call [0,1] [2,3] hl rfl rfl ?_)
  rintro _ _ ⟨rfl, rfl⟩
  refine JL.norm ?_
  refine Lq (Q_assign rfl) ?_
  refine Ln ?_
  refine Sr ?_
  refine Lq (Q_move rfl) ?_
  refine Lq ((Q_pneq rfl rfl).as (v' := .bool true) rfl) ?_
  refine Ln ?_
  refine J_condT rfl ?_
  refine J_seq ?_
  refine J.ent ((Ent.re [2,0,1,3] rfl).trans (Ent.last_out fileAt a (f, q))) ?_
  refine J_file fun S1 dp => ?_
  refine J_region ?_
  refine Lq (Q_move rfl) ?_
  refine Lq (Q_nilCheck rfl) ?_
  refine Lq (Q_fa0 rfl) ?_
  refine Lq (Q_ld 0 rfl rfl rfl rfl) ?_
  refine Lq (Q_build rfl) ?_
  refine L_o rfl rfl rfl (O_call [2] [0,1,3,4,5,6] (hdo dp) rfl rfl ?_)
  rintro _ _ ⟨rfl, rfl⟩
  refine JL.norm ?_
  refine Ln ?_
  refine J.ent ((Ent.re [1,2,0,3,4,5,6] rfl).trans (fileAt_mk (f := syncF f) rfl rfl rfl rfl)) ?_
  refine J_region ?_
  refine Lq (Q_move rfl) ?_
  refine Lq (Q_move rfl) ?_
  refine L_o rfl rfl rfl (O_call [0] [1,2,3,4] (fnext_ok E (syncF f) q hn) rfl rfl ?_)
  rintro _ _ ⟨rfl, rfl⟩
  refine JL.norm ?_
  refine Lq (Q_nilCheck rfl) ?_
  refine Lq (Q_fa0 rfl) ?_
  refine L_s rfl rfl (O_st1 2 rfl rfl rfl rfl rfl ?_)
  refine JL.norm ?_
  refine JL_nil ?_
  refine retQ_normal [] [segC p size f.next S, slc tPf true S (a ++ [(syncF f, q)]), fsC (a ++ [(syncF f, q)])] .nil ⟨rfl, rfl⟩ ?_
  rw [slc_onP a f (syncF f) q]
  exact (Ent.last_in fileAt a (syncF f, q)).trans (Ent.re [1,2,0,3] rfl)
end Go.Proofs
/- A log in files: a crash, its ends, its records. -/
set_option autoImplicit false
namespace Go.Proofs
open Go.SL
attribute [local irreducible] J JL QOp JOp seqQ blockQ loopQ retQ slc cel hex star pur stars Does RV Ent pAt
attribute [local irreducible] fileAt diskAt
theorem crash_ok (E : World) (p size sure keep : Nat) (S : SV) (ps : List Fp) (hk : keep < 2 ^ 64) (hps : ps.length ≤ 16) (hn : nextOf (onLast (ps.map (·.1)) fun f => crashF f keep) ≤ 10000000) (hok : ∀ r ∈ ps, (text r.1.l).length ≤ 8192 ∧ r.1.s ≤ (text r.1.l).length) :
 Does Tryz.prog E 51 [.pointer (some ⟨p, 0, none⟩), .int .u64 (keep : Int)] [segC p size sure S, slc tPf true S ps, fsC ps] fun v L => v = .tuple #[] ∧
  L = [segC p size (if ps = [] then sure else nextOf (onLast (ps.map (·.1)) fun f => crashF f keep)) S, slc tPf true S (onP ps fun f => crashF f keep), fsC (onP ps fun f => crashF f keep)] := by
 have hl := last_ok E p size sure S ps hps
 refine Does.of Tryz.func51 rfl Tryz.ntmps51 rfl rfl fun F => ?_
 refine J.norm ?_
 rcases last_cases ps with rfl | ⟨a, ⟨f, q⟩, rfl⟩
 ·rw [show lastP [] = .pointer none from rfl] at hl
  rw [if_pos rfl, show (onP [] fun f => crashF f keep) = [] from rfl]
  refine Sr ?_
  refine Lq (Q_move rfl) ?_
  refine L_o rfl rfl rfl (O_call [0,1] [2,3] hl rfl rfl ?_)
  rintro _ _ ⟨rfl, rfl⟩
  refine JL.norm ?_
  refine Lq (Q_assign rfl) ?_
  refine Ln ?_
  refine J_seq ?_
  refine Sr ?_
  refine Lq (Q_move rfl) ?_
  refine Lq ((Q_peql rfl rfl).as (v' := .bool true) rfl) ?_
  refine Ln ?_
  refine J_condT rfl ?_
  refine J_ret ?_
  refine seqQ_ret ?_
  exact retQ_ret [] [segC p size sure S, slc tPf true S [], fsC []] .nil ⟨rfl, rfl⟩ (Ent.refl _)
 ·rw [lastP_snoc] at hl
  rw [List.map_append, List.map_cons, List.map_nil, onLast_snoc, nextOf_snoc] at hn ⊢
  obtain ⟨hk1, hk2⟩ := hok (f, q) (by simp)
  rw [if_neg (by simp), onP_snoc]
  have hdo := fun dp => do_ok E dp f.d ⟨3, [], keep⟩ hk ⟨hk2, Nat.le_trans hk1 (by decide)⟩
  obtain ⟨t1, t2⟩ := tear_length f.d keep hk2
  have t3 : (tear f.d keep).length ≤ 8192 := Nat.le_trans t2 hk1
  have hd1 : (doD f.d ⟨3, [], keep⟩).2 = 0 := rfl
  have hd2 : (doD f.d ⟨3, [], keep⟩).1 = ⟨tear f.d keep, (tear f.d keep).length⟩ := rfl
  rw [hd1, hd2] at hdo
  have hix := fun dp S1 => index_ok E q dp f.first S1 (ends f.l) ⟨tear f.d keep, (tear f.d keep).length⟩ t3 rfl
  refine Sr ?_
  refine Lq (Q_move rfl) ?_
  refine L_o rfl rfl rfl (O_call [0,1] [2,3] hl rfl rfl ?_)
  rintro _ _ ⟨rfl, rfl⟩
  refine JL.norm ?_
  refine Lq (Q_assign rfl) ?_
  refine Ln ?_
  refine J_seq ?_
  refine Sr ?_
  refine Lq (Q_move rfl) ?_
  refine Lq ((Q_peql rfl rfl).as (v' := .bool false) rfl) ?_
  refine Ln ?_
  refine J_condF rfl ?_
  refine J_skip ?_
  refine seqQ_normal ?_
  refine J_seq ?_
  refine J.ent ((Ent.re [2,0,1,3] rfl).trans (Ent.last_out fileAt a (f, q))) ?_
  refine J_file fun S1 dp => ?_
  refine J_region ?_
  refine Lq (Q_move rfl) ?_
  refine Lq (Q_nilCheck rfl) ?_
  refine Lq (Q_fa0 rfl) ?_
  refine Lq (Q_ld 0 rfl rfl rfl rfl) ?_
  refine Lq (Q_move rfl) ?_
  refine Lq (Q_build rfl) ?_
  refine L_o rfl rfl rfl (O_call [2] [0,1,3,4,5,6] (hdo dp) rfl rfl ?_)
  rintro _ _ ⟨rfl, rfl⟩
  refine JL.norm ?_
  refine Ln ?_
  refine Sr ?_
  refine Lq (Q_move rfl) ?_
  refine L_o rfl rfl rfl (O_call [1,2,0] [3,4,5,6] (hix dp S1) rfl rfl ?_)
  rintro _ _ ⟨rfl, rfl⟩
  refine JL.norm ?_
  refine Ln ?_
  refine J_region ?_
  refine Lq (Q_move rfl) ?_
  refine Lq (Q_move rfl) ?_
  refine L_o rfl rfl rfl (O_call [0] [1,2,3,4] (fnext_ok E (crashF f keep) q hn) rfl rfl ?_)
  rintro _ _ ⟨rfl, rfl⟩
  refine JL.norm ?_
  refine Lq (Q_nilCheck rfl) ?_
  refine Lq (Q_fa0 rfl) ?_
  refine L_s rfl rfl (O_st1 2 rfl rfl rfl rfl rfl ?_)
  refine JL.norm ?_
  refine JL_nil ?_
  refine retQ_normal [] [segC p size (crashF f keep).next S, slc tPf true S (a ++ [(crashF f keep, q)]), fsC (a ++ [(crashF f keep, q)])] .nil ⟨rfl, rfl⟩ ?_
  rw [slc_onP a f (crashF f keep) q]
  exact (Ent.last_in fileAt a (crashF f keep, q)).trans (Ent.re [1,2,0,3] rfl)
theorem sfirst_ok (E : World) (p size sure : Nat) (S : SV) (ps : List Fp) (hps : ps.length ≤ 16) :
 Does Tryz.prog E 53 [.pointer (some ⟨p, 0, none⟩)] [segC p size sure S, slc tPf true S ps, fsC ps] fun v L => v = .int .i64 (firstOf (ps.map (·.1)) : Int) ∧ L = [segC p size sure S, slc tPf true S ps, fsC ps] := by
 refine Does.of Tryz.func53 rfl Tryz.ntmps53 rfl rfl fun F => ?_
 refine J.norm ?_
 cases ps with
 | nil =>
  refine Sr ?_
  refine Lq (Q_assign rfl) ?_
  refine Ln ?_
  refine J_seq ?_
  refine Sr ?_
  refine Lq (Q_move rfl) ?_
  refine Lq (Q_peql rfl rfl) ?_
  refine Lq (Q_move rfl) ?_
  refine Lq (Q_move rfl) ?_
  refine Lq (Q_nilCheck rfl) ?_
  refine Lq (Q_fa0 rfl) ?_
  refine Lq (Q_ld 0 rfl rfl rfl rfl) ?_
  refine Lq (Q_lenAt 1 rfl rfl) ?_
  refine Lq ((Q_eql rfl rfl).as (v' := .bool true) rfl) ?_
  refine Lq (Q_pickF rfl rfl) ?_
  refine Ln ?_
  refine J_condT rfl ?_
  refine Sr ?_
  refine Lq (Q_assign rfl) ?_
  refine Ln ?_
  refine J_ret ?_
  refine seqQ_ret ?_
  exact retQ_ret _ [segC p size sure S, slc tPf true S [], fsC []] (.cons (RV_tmp rfl) .nil) ⟨rfl, rfl⟩ (Ent.refl _)
 | cons r ps =>
  obtain ⟨f, q⟩ := r
  refine Sr ?_
  refine Lq (Q_assign rfl) ?_
  refine Ln ?_
  refine J_seq ?_
  refine Sr ?_
  refine Lq (Q_move rfl) ?_
  refine Lq (Q_peql rfl rfl) ?_
  refine Lq (Q_move rfl) ?_
  refine Lq (Q_move rfl) ?_
  refine Lq (Q_nilCheck rfl) ?_
  refine Lq (Q_fa0 rfl) ?_
  refine Lq (Q_ld 0 rfl rfl rfl rfl) ?_
  refine Lq (Q_lenAt 1 rfl rfl) ?_
  refine Lq ((Q_eql rfl rfl).as (v' := .bool false) (congrArg Value.bool (decide_eq_false (by simp; omega)))) ?_
  refine Lq (Q_pickF rfl rfl) ?_
  refine Ln ?_
  refine J_condF rfl ?_
  refine J_skip ?_
  refine seqQ_normal ?_
  refine J_seq ?_
  refine J.ent ((Ent.re [2,0,1,3] rfl).trans (Ent.mid_out fileAt [] (f, q) ps)) ?_
  refine J_file fun S1 dp => ?_
  refine J_region ?_
  refine Lq (Q_move rfl) ?_
  refine Lq (Q_nilCheck rfl) ?_
  refine Lq (Q_fa0 rfl) ?_
  refine Lq (Q_ld 4 rfl rfl rfl rfl) ?_
  refine Lq (Q_ixAt 5 0 rfl rfl rfl rfl (by simp) rfl) ?_
  refine Lq (Q_ldEAt 5 0 0 (v := .pointer (some ⟨q, 0, none⟩)) rfl rfl rfl rfl (by simp) (by decide) rfl) ?_
  refine Lq (Q_nilCheck rfl) ?_
  refine Lq (Q_fa0 rfl) ?_
  refine Lq (Q_ld 0 rfl rfl rfl rfl) ?_
  refine Lq (Q_assign rfl) ?_
  refine Ln ?_
  refine J_ret ?_
  exact retQ_ret _ [segC p size sure S, slc tPf true S ((f, q) :: ps), fsC ((f, q) :: ps)] (.cons (RV_tmp rfl) .nil) ⟨rfl, rfl⟩ (((fileAt_mk rfl rfl rfl rfl).trans (Ent.mid_in fileAt [] (f, q) ps)).trans (Ent.re [1,2,0,3] rfl))
theorem fnext_open (E : World) (f : Fl) (q dp : Nat) (S : SV) (h : f.next ≤ 10000000) : Does Tryz.prog E 67 [.pointer (some ⟨q, 0, none⟩)] [cel q [.int .i64 (f.first : Int), S.v, .pointer (some ⟨dp, 0, none⟩)] 154, slc tI true S (ends f.l)] fun v L => v = .int .i64 (f.next : Int) ∧ L = [cel q [.int .i64 (f.first : Int), S.v, .pointer (some ⟨dp, 0, none⟩)] 154, slc tI true S (ends f.l)] := by
 have h' : f.first + f.l.length ≤ 10000000 := h
 have hl := ends_len f.l
 refine Does.of Tryz.func67 rfl Tryz.ntmps67 rfl rfl fun F => ?_
 refine J.norm ?_
 refine Sr ?_
 refine Lq (Q_assign rfl) ?_
 refine Ln ?_
 refine J_seq ?_
 refine DL [0,1,2,3,4,5,6,7,8,9,10] (.quiet 0 (.quiet 1 (.quiet 2 (.quiet 3 (.quiet 4 (.quiet 5 (.quiet 6 (.quiet 7 (.quiet 8 (.quiet 9 (.quiet 10 .done))))))))))) Tryz.mixed ?_
 refine Sq (Ent.refl _) rfl (Q_move rfl) ?_
 refine Sq (Ent.refl _) rfl (Q_nilCheck rfl) ?_
 refine Sq (Ent.refl _) rfl (Q_fa0 rfl) ?_
 refine Sq (Ent.refl _) rfl (Q_ld 0 rfl rfl rfl rfl) ?_
 refine Sq (Ent.refl _) rfl (Q_move rfl) ?_
 refine Sq (Ent.refl _) rfl (Q_nilCheck rfl) ?_
 refine Sq (Ent.refl _) rfl (Q_fa0 rfl) ?_
 refine Sq (Ent.refl _) rfl (Q_ld 0 rfl rfl rfl rfl) ?_
 refine Sq (Ent.refl _) rfl (Q_lenAt 1 rfl rfl) ?_
 refine Sq (Ent.refl _) rfl (Q_add rfl rfl (by first | exact IntWalk.i64_in _ (by omega) | exact IntWalk.u8_in _ (by omega) | exact IntWalk.u32_in _ (by omega) | exact IntWalk.u64_in _ (by omega) | rfl)) ?_
 refine Sq (Ent.refl _) rfl (Q_assign rfl) ?_
 refine S_nil ?_
 refine seqQ_normal ?_
 refine J_ret ?_
 refine retQ_ret _ [cel q [.int .i64 (f.first : Int), S.v, .pointer (some ⟨dp, 0, none⟩)] 154, slc tI true S (ends f.l)] (.cons (RV_tmp rfl) .nil) ⟨?_, rfl⟩ (Ent.refl _)
 simp only [Fl.next, hl, oneOf]
 congr 1
theorem split_at {α : Type} (l : List α) (k : Nat) (h : k < l.length) : ∃ a x b, l = a ++ x :: b ∧ a.length = k := ⟨l.take k, l[k], l.drop (k + 1), by
 rw [← List.drop_eq_getElem_cons h, List.take_append_drop], by simp; omega⟩
theorem get_mid {α : Type} (a : List α) (x : α) (b : List α) (h : a.length < (a ++ x :: b).length) : (a ++ x :: b)[a.length] = x := by simp
def getV (fs : List Fl) (i : Int) : Value := .tuple #[str (getL fs i).1, .int .i64 (getL fs i).2]
theorem sget_ok (E : World) (p size sure : Nat) (S : SV) (ps : List Fp) (i : Int) (hps : ps.length ≤ 16) (hok : ∀ r ∈ ps, (text r.1.l).length ≤ 8192 ∧ (∀ t ∈ r.1.l, t.length ≤ 4096) ∧ r.1.next ≤ 10000000) :
 Does Tryz.prog E 54 [.pointer (some ⟨p, 0, none⟩), .int .i64 i] [segC p size sure S, slc tPf true S ps, fsC ps] fun v L => v = getV (ps.map (·.1)) i ∧ L = [segC p size sure S, slc tPf true S ps, fsC ps] := by
 refine Does.of Tryz.func54 rfl Tryz.ntmps54 rfl rfl fun F => ?_
 refine J.norm ?_
 refine Sr ?_
 refine Lq (Q_assign rfl) ?_
 refine Lq (Q_assign rfl) ?_
 refine Ln ?_
 refine J_seq ?_
 refine Sr ?_
 refine Lq (Q_move rfl) ?_
 refine Lq ((Q_pneq rfl rfl).as (v' := .bool true) rfl) ?_
 refine Ln ?_
 refine J_condT rfl ?_
 refine Sr ?_
 refine Lq (Q_move rfl) ?_
 refine Lq (Q_nilCheck rfl) ?_
 refine Lq (Q_fa0 rfl) ?_
 refine Lq (Q_ld 0 rfl rfl rfl rfl) ?_
 refine Lq (Q_lenAt 1 rfl rfl) ?_
 refine Lq (Q_move rfl) ?_
 refine Ln ?_
 refine J_block ?_
 refine J_loop (fun k : Nat => k ≤ ps.length ∧ getL (ps.map (·.1)) i = getL ((ps.drop k).map (·.1)) i) (fun k => [(0, .pointer (some ⟨p, 0, none⟩)), (1, .int .i64 i), (13, S.v), (14, .int .i64 (ps.length : Int)), (15, .int .i64 (k : Int))])
  (fun _ => [segC p size sure S, slc tPf true S ps, fsC ps, F]) (fun k => ps.length - k) 0 ⟨by simp, by simp⟩ ⟨rfl, rfl, rfl, rfl, rfl, trivial⟩ (Ent.refl _) ?_
 rintro k ⟨hk, hg⟩
 refine Sr ?_
 refine Lq (Q_lss rfl rfl) ?_
 refine Ln ?_
 refine J_seq ?_
 refine J_condD rfl (fun h => ?_) (fun h => ?_)
 ·have hlt : k < ps.length := by omega
  obtain ⟨a, ⟨f, q⟩, b, rfl, rfl⟩ := split_at ps k hlt
  have hgm := get_mid a (f, q) b hlt
  obtain ⟨o1, o2, o3⟩ := hok (f, q) (by simp)
  have o3' : f.next ≤ 10000000 := o3
  have hfn : f.next = f.first + f.l.length := rfl
  rw [List.drop_left] at hg
  have hg' : getL ((a ++ (f, q) :: b).map (·.1)) i = if (f.first : Int) ≤ i ∧ i < (f.next : Int) then (f.l.getD (i - f.first).toNat [], 0) else getL (b.map (·.1)) i := hg
  refine J_skip ?_
  refine seqQ_normal ?_
  refine J_seq ?_
  refine J_block ?_
  refine Sr ?_
  refine Lq (Q_ixAt 1 a.length rfl rfl rfl rfl hlt rfl) ?_
  refine Lq (Q_ldEAt 1 a.length 0 (v := .pointer (some ⟨q, 0, none⟩)) rfl rfl rfl rfl hlt (by decide) (by rw [hgm]; rfl)) ?_
  refine Lq (Q_assign rfl) ?_
  refine Ln ?_
  refine J_seq ?_
  refine J.ent ((Ent.re [2,0,1,3] rfl).trans (Ent.mid_out fileAt a (f, q) b)) ?_
  refine J_file fun S1 dp => ?_
  by_cases c1 : (f.first : Int) ≤ i
  ·skip
   refine J_region ?_
   refine Lq (Q_move rfl) ?_
   refine Lq (Q_move rfl) ?_
   refine Lq (Q_nilCheck rfl) ?_
   refine Lq (Q_fa0 rfl) ?_
   refine Lq (Q_ld 0 rfl rfl rfl rfl) ?_
   refine Lq ((Q_geq rfl rfl).as (v' := .bool true) (congrArg Value.bool (decide_eq_true c1))) ?_
   refine Lq (Q_move rfl) ?_
   refine Lq (Q_move rfl) ?_
   refine Lq (Q_move rfl) ?_
   refine L_o rfl rfl rfl (O_call [0,1] [2,3,4,5,6] (fnext_open E f q dp S1 o3') rfl rfl ?_)
   rintro _ _ ⟨rfl, rfl⟩
   refine JL.norm ?_
   refine Lq (Q_lss rfl rfl) ?_
   refine Lq (Q_pickT rfl rfl) ?_
   refine Ln ?_
   refine J_condD rfl (fun c2 => ?_) (fun c2 => ?_)
   ·obtain ⟨j, hj⟩ : ∃ j : Nat, i = ((f.first + j : Nat) : Int) := ⟨(i - f.first).toNat, by omega⟩
    have hjl : j < f.l.length := by omega
    have e : getV ((a ++ (f, q) :: b).map (·.1)) i = .tuple #[str f.l[j], .int .i64 0] := by
     unfold getV
     rw [hg', if_pos ⟨c1, c2⟩, show (i - (f.first : Int)).toNat = j by omega]
     simp [List.getD_eq_getElem?_getD, List.getElem?_eq_getElem hjl]
    rw [e]
    refine Sr ?_
    refine Lq (Q_move rfl) ?_
    refine Lq (Q_move rfl) ?_
    refine Lq (Q_move rfl) ?_
    refine Lq (Q_nilCheck rfl) ?_
    refine Lq (Q_fa0 rfl) ?_
    refine Lq (Q_ld 0 rfl rfl rfl rfl) ?_
    refine Lq ((Q_sub (r := (j : Int)) rfl rfl (by rw [show i - (f.first : Int) = (j : Int) by omega]; exact IntWalk.i64_in _ (by omega)))) ?_
    refine JL.ent (fileAt_mk rfl rfl rfl rfl) ?_
    refine L_o rfl rfl rfl (O_call [0] [1,2,3,4] (fget_ok E f q j hjl o1 o2) rfl rfl ?_)
    rintro _ _ ⟨rfl, rfl⟩
    refine JL.norm ?_
    refine Lq (Q_assign rfl) ?_
    refine Lq (Q_assign rfl) ?_
    refine Ln ?_
    refine J_ret ?_
    refine blockQ_ret ?_
    refine seqQ_ret ?_
    refine loopQ_ret ?_
    refine blockQ_ret ?_
    refine seqQ_ret ?_
    exact retQ_ret _ [segC p size sure S, slc tPf true S (a ++ (f, q) :: b), fsC (a ++ (f, q) :: b)] (.cons (RV_tmp rfl) (.cons (RV_tmp rfl) .nil)) ⟨rfl, rfl⟩ ((Ent.mid_in fileAt a (f, q) b).trans (Ent.re [1,2,0,3] rfl))
   ·rw [if_neg (by omega)] at hg'
    refine J_skip ?_
    refine blockQ_normal ?_
    refine seqQ_normal ?_
    refine J_region ?_
    refine Lq (Q_add rfl rfl (by first | exact IntWalk.i64_in _ (by omega) | exact IntWalk.u8_in _ (by omega) | exact IntWalk.u32_in _ (by omega) | exact IntWalk.u64_in _ (by omega) | rfl)) ?_
    refine Lq (Q_move rfl) ?_
    refine JL_nil ?_
    refine loopQ_normal (a.length + 1) ⟨by omega, ?_⟩ (by omega) ⟨rfl, rfl, rfl, rfl, rfl, trivial⟩ (((fileAt_mk rfl rfl rfl rfl).trans (Ent.mid_in fileAt a (f, q) b)).trans (Ent.re [1,2,0,3] rfl))
    rw [hg']; simp
  ·rw [if_neg (by omega)] at hg'
   refine J_region ?_
   refine Lq (Q_move rfl) ?_
   refine Lq (Q_move rfl) ?_
   refine Lq (Q_nilCheck rfl) ?_
   refine Lq (Q_fa0 rfl) ?_
   refine Lq (Q_ld 0 rfl rfl rfl rfl) ?_
   refine Lq ((Q_geq rfl rfl).as (v' := .bool false) (congrArg Value.bool (decide_eq_false c1))) ?_
   refine Lq (Q_move rfl) ?_
   refine L_n rfl rfl rfl ?_
   refine L_n rfl rfl rfl ?_
   refine L_n rfl rfl rfl ?_
   refine L_n rfl rfl rfl ?_
   refine Lq (Q_pickF rfl rfl) ?_
   refine Ln ?_
   refine J_condF rfl ?_
   refine J_skip ?_
   refine blockQ_normal ?_
   refine seqQ_normal ?_
   refine J_region ?_
   refine Lq (Q_add rfl rfl (by first | exact IntWalk.i64_in _ (by omega) | exact IntWalk.u8_in _ (by omega) | exact IntWalk.u32_in _ (by omega) | exact IntWalk.u64_in _ (by omega) | rfl)) ?_
   refine Lq (Q_move rfl) ?_
   refine JL_nil ?_
   refine loopQ_normal (a.length + 1) ⟨by omega, ?_⟩ (by omega) ⟨rfl, rfl, rfl, rfl, rfl, trivial⟩ (((fileAt_mk rfl rfl rfl rfl).trans (Ent.mid_in fileAt a (f, q) b)).trans (Ent.re [1,2,0,3] rfl))
   rw [hg']; simp
 ·obtain rfl : k = ps.length := by omega
  rw [List.drop_length] at hg
  have e : getV (ps.map (·.1)) i = .tuple #[str [], .int .i64 9] := by unfold getV; rw [hg]; rfl
  rw [e]
  refine J_exit ?_
  refine seqQ_exit ?_
  refine loopQ_exit ?_
  refine blockQ_hit ?_
  refine seqQ_normal ?_
  refine Sr ?_
  refine Lq (Q_assign rfl) ?_
  refine Lq (Q_assign rfl) ?_
  refine Ln ?_
  refine J_ret ?_
  exact retQ_ret _ [segC p size sure S, slc tPf true S ps, fsC ps] (.cons (RV_tmp rfl) (.cons (RV_tmp rfl) .nil)) ⟨rfl, rfl⟩ (Ent.refl _)
end Go.Proofs
