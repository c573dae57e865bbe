/- Part 22 of the texts below the row: Kv10, Kv11, Kv12, KvP, KvQ, Kv13, Kv14, Kv15, KvI. -/
import Derived.Test.YtgifbeecmidciaaGreatM21
/- A key put, a key deleted. -/
set_option autoImplicit false
namespace Go.Proofs
open Go.SL Go.Proofs.Bt
def keyB (k : Ky) : Bool := decide (k ≠ []) && decide (k.length ≤ 32)
theorem keyB_len {k : Ky} (h : keyB k = true) : k.length ≤ 32 := by
 simp [keyB] at h; exact h.2
attribute [local irreducible] J JL QOp JOp seqQ blockQ loopQ retQ slc cel hex star pur stars Does RV Ent pAt scopeQ
attribute [local irreducible] nodeA nodeX treeA segA snapA
theorem kput_ok (E : World) (p pt pl ps c : Nat) (saved : Int) (g : Lg) (l : List Kv) (k v : Ky) (hg : Good g c) (hc : c ≤ 1000000) (hl : l.length ≤ 1000000) (hk : keyB k = true) (hv : v.length ≤ 1024) : Does Tryz.prog E 16 [.pointer (some ⟨p, 0, none⟩), str k, str v] [kvC p pt pl ps saved, treeA pt l, segA pl g] fun r L => r = .int .i64 (appL g (chB (.put k v))).2.2 ∧ L = [kvC p pt pl ps saved, treeA pt (if (appL g (chB (.put k v))).2.2 = 0 then putL l k v else l), segA pl (appL g (chB (.put k v))).1] := by
 have hkey := key_ok E k
 rw [show (decide (k ≠ []) && decide (k.length ≤ 32)) = true from hk] at hkey
 refine Does.of Tryz.func16 rfl Tryz.ntmps16 rfl rfl fun F => ?_
 refine J.norm ?_
 refine Sr ?_
 refine Lq (Q_assign rfl) ?_
 refine Ln ?_
 refine J_seq ?_
 refine Sr ?_
 refine Lq (Q_move rfl) ?_
 refine Lq ((Q_peql rfl rfl).as (v' := .bool false) rfl) ?_
 refine Lq (Q_move rfl) ?_
 refine Lq (Q_move rfl) ?_
 refine L_o rfl rfl rfl (O_call [] [0,1,2,3] hkey rfl rfl ?_)
 rintro _ _ ⟨rfl, rfl⟩
 refine JL.norm ?_
 refine Lq ((Q_not rfl).as (v' := .bool false) rfl) ?_
 refine Lq (Q_pickF rfl rfl) ?_
 refine Lq (Q_move rfl) ?_
 refine Lq (Q_move rfl) ?_
 refine Lq (Q_slen rfl) ?_
 refine Lq ((Q_gtr rfl rfl).as (v' := .bool false) (congrArg Value.bool (decide_eq_false (by omega)))) ?_
 refine Lq (Q_pickF rfl rfl) ?_
 refine Ln ?_
 refine J_condF rfl ?_
 refine J_skip ?_
 refine seqQ_normal ?_
 refine Sr ?_
 refine Lq (Q_move rfl) ?_
 refine Lq (Q_move rfl) ?_
 refine Lq (Q_move rfl) ?_
 refine Lq (Q_build rfl) ?_
 refine Lq (Q_makeInterface rfl rfl) ?_
 refine L_o rfl rfl rfl (O_call [0,1,2] [3] (chPut_ok E p pt pl ps c saved g l k v (by have := keyB_len hk; omega) hg hc hl) rfl rfl ?_)
 rintro _ _ ⟨rfl, rfl⟩
 refine JL.norm ?_
 refine Lq (Q_assign rfl) ?_
 refine Ln ?_
 refine J_ret ?_
 exact retQ_ret _ _ (.cons (RV_tmp rfl) .nil) ⟨rfl, rfl⟩ (Ent.refl _)
end Go.Proofs
/- Synced; of how many records it is sure. -/
set_option autoImplicit false
namespace Go.Proofs
open Go.SL Go.Proofs.Bt
attribute [local irreducible] J JL QOp JOp seqQ blockQ loopQ retQ slc cel hex star pur stars Does RV Ent pAt scopeQ
attribute [local irreducible] nodeA nodeX treeA segA snapA
theorem ksync_ok (E : World) (p pt pl ps c : Nat) (saved : Int) (g : Lg) (hg : Good g c) (hc : c ≤ 1000000) : Does Tryz.prog E 19 [.pointer (some ⟨p, 0, none⟩)] [kvC p pt pl ps saved, segA pl g] fun r L => r = .tuple #[] ∧ L = [kvC p pt pl ps saved, segA pl (syncL g)] := by
 refine Does.of Tryz.func19 rfl Tryz.ntmps19 rfl rfl fun F => ?_
 refine J.norm ?_
 refine Sr ?_
 refine Lq (Q_move rfl) ?_
 refine Lq ((Q_pneq rfl rfl).as (v' := .bool true) rfl) ?_
 refine Ln ?_
 refine J_condT rfl ?_
 refine J_region ?_
 refine Lq (Q_move rfl) ?_
 refine Lq (Q_nilCheck rfl) ?_
 refine Lq (Q_fa0 rfl) ?_
 refine Lq (Q_ld 0 rfl rfl rfl rfl) ?_
 refine L_o rfl rfl rfl (O_call [1] [0,2] (gsync_ok E pl c g hg hc) rfl rfl ?_)
 rintro _ _ ⟨rfl, rfl⟩
 refine JL.norm ?_
 refine JL_nil ?_
 exact retQ_normal [] [kvC p pt pl ps saved, segA pl (syncL g)] .nil ⟨rfl, rfl⟩ (Ent.re [1,0,2] rfl)
end Go.Proofs
/- A key deleted. -/
set_option autoImplicit false
namespace Go.Proofs
open Go.SL Go.Proofs.Bt
attribute [local irreducible] J JL QOp JOp seqQ blockQ loopQ retQ slc cel hex star pur stars Does RV Ent pAt scopeQ
attribute [local irreducible] nodeA nodeX treeA segA snapA
theorem kdel_ok (E : World) (p pt pl ps c : Nat) (saved : Int) (g : Lg) (l : List Kv) (k : Ky) (hg : Good g c) (hc : c ≤ 1000000) (hl : l.length ≤ 1000000) (hk : keyB k = true) (hh : hasL l k = true) : Does Tryz.prog E 17 [.pointer (some ⟨p, 0, none⟩), str k] [kvC p pt pl ps saved, treeA pt l, segA pl g] fun r L => r = .int .i64 (appL g (chB (.del k))).2.2 ∧ L = [kvC p pt pl ps saved, treeA pt (if (appL g (chB (.del k))).2.2 = 0 then delL l k else l), segA pl (appL g (chB (.del k))).1] := by
 have hkey := key_ok E k
 rw [show (decide (k ≠ []) && decide (k.length ≤ 32)) = true from hk] at hkey
 have hget := tget_ok E pt l k
 rw [hh] at hget
 refine Does.of Tryz.func17 rfl Tryz.ntmps17 rfl rfl fun F => ?_
 refine J.norm ?_
 refine Sr ?_
 refine Lq (Q_assign rfl) ?_
 refine Ln ?_
 refine J_seq ?_
 refine Sr ?_
 refine Lq (Q_move rfl) ?_
 refine Lq ((Q_peql rfl rfl).as (v' := .bool false) rfl) ?_
 refine Lq (Q_move rfl) ?_
 refine Lq (Q_move rfl) ?_
 refine L_o rfl rfl rfl (O_call [] [0,1,2,3] hkey rfl rfl ?_)
 rintro _ _ ⟨rfl, rfl⟩
 refine JL.norm ?_
 refine Lq ((Q_not rfl).as (v' := .bool false) rfl) ?_
 refine Lq (Q_pickF rfl rfl) ?_
 refine Ln ?_
 refine J_condF rfl ?_
 refine J_skip ?_
 refine seqQ_normal ?_
 refine J_seq ?_
 refine Sr ?_
 refine Lq (Q_move rfl) ?_
 refine Lq (Q_nilCheck rfl) ?_
 refine Lq (Q_fa0 rfl) ?_
 refine Lq (Q_ld 0 rfl rfl rfl rfl) ?_
 refine Lq (Q_move rfl) ?_
 refine L_o rfl rfl rfl (O_call [1] [0,2,3] hget rfl rfl ?_)
 rintro _ _ ⟨rfl, rfl⟩
 refine JL.norm ?_
 refine Lq (Q_move rfl) ?_
 refine Lq (Q_extract (v := str (Bt.getL l k)) rfl rfl) ?_
 refine Lq (Q_extract (v := .bool true) rfl rfl) ?_
 refine Lq (Q_assign rfl) ?_
 refine Lq (Q_assign rfl) ?_
 refine Ln ?_
 refine Sr ?_
 refine Lq (Q_move rfl) ?_
 refine Lq ((Q_not rfl).as (v' := .bool false) rfl) ?_
 refine Ln ?_
 refine J_condF rfl ?_
 refine J_skip ?_
 refine seqQ_normal ?_
 refine Sr ?_
 refine Lq (Q_move rfl) ?_
 refine Lq (Q_move rfl) ?_
 refine Lq (Q_build rfl) ?_
 refine Lq (Q_makeInterface rfl rfl) ?_
 refine L_o rfl rfl rfl (O_call [1,0,2] [3] (chDel_ok E p pt pl ps c saved g l k (by have := keyB_len hk; omega) hg hc hl) rfl rfl ?_)
 rintro _ _ ⟨rfl, rfl⟩
 refine JL.norm ?_
 refine Lq (Q_assign rfl) ?_
 refine Ln ?_
 refine J_ret ?_
 exact retQ_ret _ _ (.cons (RV_tmp rfl) .nil) ⟨rfl, rfl⟩ (Ent.refl _)
end Go.Proofs
/- Pairs packed and unpacked, in plain Lean. -/
set_option autoImplicit false
namespace Go.Proofs
open Go.SL Go.Proofs.Bt
theorem unp_up : ∀ (l : List Kv) (p : Option Ky), Up l → (∀ q, p = some q → Abv l q) → unp p (flat (toPr l)) = some (toPr l)
 | [], _, _, _ => rfl
 | x :: l, p, hu, hp => by
  have h1 : flat (toPr (x :: l)) = x.key :: x.val :: flat (toPr l) := rfl
  have h2 : badK p x.key = false := by
   cases p with
   | none => rfl
   | some q =>
    have := hp q rfl x (by simp)
    show (!(Op.bytesLess q x.key)) = false
    rw [less_kl, this]; rfl
  have hu2 := List.pairwise_cons.1 hu
  rw [h1, unp, if_neg (by rw [h2]; simp), unp_up l (some x.key) hu2.2 (fun q hq => by cases hq; exact hu2.1)]
  rfl
theorem knextT (s r : List UInt8) (h : s.length < 2 ^ 32) : nextT (four s.length ++ s ++ r) = some (s, r) := by
 have h1 : (four s.length ++ s ++ r).drop 4 = s ++ r := rfl
 have h2 : (four s.length ++ s ++ r).take 4 = four s.length := rfl
 have h3 : be (four s.length) = s.length := by rw [be_four, Nat.mod_eq_of_lt h]
 unfold nextT
 rw [h1, h2, h3, if_neg (by simp [four_len]), if_neg (by simp)]
 simp
theorem kreadT (l : List (List UInt8)) (h : ∀ s ∈ l, s.length < 2 ^ 32) : readT (texts l) = some l := by
 induction l with
 | nil => exact readT_nil
 | cons s l ih =>
  have e : texts (s :: l) = four s.length ++ s ++ texts l := by simp [texts]
  rw [e, readT_some (by simp [four]) (knextT s _ (h s (by simp))), ih (fun t ht => h t (by simp [ht]))]
  rfl
theorem unp_pack {l : List Kv} (hu : Up l) (h : ∀ s ∈ flat (toPr l), s.length < 2 ^ 32) : unpL (texts (flat (toPr l))) = toPr l := by
 unfold unpL
 rw [unpT_some (kreadT _ h), unp_up l none hu (fun q hq => by cases hq)]
 rfl
end Go.Proofs
/- Rising pairs put one by one; a number's four bytes back. -/
set_option autoImplicit false
namespace Go.Proofs
open Go.SL Go.Proofs.Bt
end Go.Proofs
/- A state loaded. -/
set_option autoImplicit false
namespace Go.Proofs
open Go.SL Go.Proofs.Bt
theorem kor_8 (n b : Nat) (hb : b < 256) : (n * 2 ^ 8 ||| b) = n * 256 + b := by
 rw [show n * 2 ^ 8 = 2 ^ 8 * n by omega, ← Nat.two_pow_add_eq_or_of_lt (by omega : b < 2 ^ 8)]
theorem kpow_le {k : Nat} (h : k < 4) : 256 ^ k ≤ 16777216 := Nat.le_trans (Nat.pow_le_pow_right (by decide) (show k ≤ 3 by omega)) (by decide)
theorem take_put {l : List Kv} (hu : Up l) {k : Nat} (h : k < l.length) : putL (l.take k) l[k].key l[k].val = l.take (k + 1) := by
 have e : l.take (k + 1) = l.take k ++ [l[k]] := List.take_succ_eq_append_getElem h
 have hu2 : Up (l.take k ++ [l[k]]) := by rw [← e]; exact List.Pairwise.sublist (List.take_sublist ..) hu
 have h1 := up_mid (Y := []) hu2
 have := put_miss (X := l.take k) (Y := []) (k := l[k].key) h1.1 (by intro z hz; cases hz) l[k].val
 rw [List.append_nil] at this
 rw [this, e]
attribute [local irreducible] J JL QOp JOp seqQ blockQ loopQ retQ slc cel hex star pur stars Does RV Ent pAt scopeQ
attribute [local irreducible] nodeA nodeX treeA segA snapA
theorem kload0_ok (E : World) (p pt pl ps : Nat) (saved : Int) (a b : List UInt8) (ha : a.length ≤ 100000) (hb : b.length ≤ 100000) (h0 : loadN a b = 0) : Does Tryz.prog E 52 [.pointer (some ⟨p, 0, none⟩)] [kvC p pt pl ps saved, snapA ps a b] fun r L => ∃ q : Nat, r = .tuple #[.pointer (some ⟨q, 0, none⟩), .int .i64 0] ∧ L = [kvC p pt pl ps saved, snapA ps a b, treeA q []] := by
 have hl := sload_ok E ps a b ha hb
 rw [h0] at hl
 refine Does.of Tryz.func52 rfl Tryz.ntmps52 rfl rfl fun F => ?_
 refine J.norm ?_
 refine Sr ?_
 refine Lq (Q_assign rfl) ?_
 refine Lq (Q_assign rfl) ?_
 refine Ln ?_
 refine Sr ?_
 refine L_o rfl rfl rfl (O_call [] [0,1,2] (tnew_ok E) rfl rfl ?_)
 rintro _ _ ⟨q, rfl, rfl⟩
 refine JL.norm ?_
 refine Lq (Q_assign rfl) ?_
 refine Ln ?_
 refine Sr ?_
 refine Lq (Q_move rfl) ?_
 refine Lq (Q_nilCheck rfl) ?_
 refine Lq (Q_fa0 rfl) ?_
 refine Lq (Q_ld 1 rfl rfl rfl rfl) ?_
 refine L_o rfl rfl rfl (O_call [2] [0,1,3] hl rfl rfl ?_)
 rintro _ _ ⟨rfl, rfl⟩
 refine JL.norm ?_
 refine Lq (Q_move rfl) ?_
 refine Lq (Q_extract (v := str (loadT a b)) rfl rfl) ?_
 refine Lq (Q_extract (v := .int .i64 0) rfl rfl) ?_
 refine Lq (Q_assign rfl) ?_
 refine Lq (Q_assign rfl) ?_
 refine Ln ?_
 refine J_seq ?_
 refine Sr ?_
 refine Lq (Q_move rfl) ?_
 refine Lq ((Q_eql rfl rfl).as (v' := .bool true) rfl) ?_
 refine Ln ?_
 refine J_condT rfl ?_
 refine Sr ?_
 refine Lq (Q_move rfl) ?_
 refine Lq (Q_assign rfl) ?_
 refine Lq (Q_assign rfl) ?_
 refine Ln ?_
 refine J_ret ?_
 refine seqQ_ret ?_
 exact retQ_ret _ [kvC p pt pl ps saved, snapA ps a b, treeA q []] (.cons (RV_tmp rfl) (.cons (RV_tmp rfl) .nil)) ⟨q, rfl, rfl⟩ (Ent.re [2,0,1,3] rfl)
theorem kload_ok (E : World) (p pt pl ps : Nat) (saved : Int) (a b : List UInt8) (s : Nat) (base : List Kv) (ha : a.length ≤ 100000) (hb : b.length ≤ 100000) (h0 : loadN a b ≠ 0) (hT : loadT a b = four s ++ texts (flat (toPr base))) (hs : s < 2 ^ 31) (hu : Up base) (hlen : base.length ≤ 100000) (hbig : ∀ x ∈ flat (toPr base), x.length < 2 ^ 32) (htl : (texts (flat (toPr base))).length ≤ 1000000) : Does Tryz.prog E 52 [.pointer (some ⟨p, 0, none⟩)] [kvC p pt pl ps saved, snapA ps a b] fun r L => ∃ q : Nat, r = .tuple #[.pointer (some ⟨q, 0, none⟩), .int .i64 (s : Int)] ∧ L = [kvC p pt pl ps saved, snapA ps a b, treeA q base] := by
 have hl := sload_ok E ps a b ha hb
 have hup := unp_pack hu hbig
 have hfl : (four s).length = 4 := rfl
 rw [hT] at hl
 refine Does.of Tryz.func52 rfl Tryz.ntmps52 rfl rfl fun F => ?_
 refine J.norm ?_
 refine Sr ?_
 refine Lq (Q_assign rfl) ?_
 refine Lq (Q_assign rfl) ?_
 refine Ln ?_
 refine Sr ?_
 refine L_o rfl rfl rfl (O_call [] [0,1,2] (tnew_ok E) rfl rfl ?_)
 rintro _ _ ⟨q, rfl, rfl⟩
 refine JL.norm ?_
 refine Lq (Q_assign rfl) ?_
 refine Ln ?_
 refine Sr ?_
 refine Lq (Q_move rfl) ?_
 refine Lq (Q_nilCheck rfl) ?_
 refine Lq (Q_fa0 rfl) ?_
 refine Lq (Q_ld 1 rfl rfl rfl rfl) ?_
 refine L_o rfl rfl rfl (O_call [2] [0,1,3] hl rfl rfl ?_)
 rintro _ _ ⟨rfl, rfl⟩
 refine JL.norm ?_
 refine Lq (Q_move rfl) ?_
 refine Lq (Q_extract (v := str (four s ++ texts (flat (toPr base)))) rfl rfl) ?_
 refine Lq (Q_extract (v := .int .i64 (loadN a b : Int)) rfl rfl) ?_
 refine Lq (Q_assign rfl) ?_
 refine Lq (Q_assign rfl) ?_
 refine Ln ?_
 refine J_seq ?_
 refine Sr ?_
 refine Lq (Q_move rfl) ?_
 refine Lq ((Q_eql rfl rfl).as (v' := .bool false) (congrArg Value.bool (decide_eq_false (by omega)))) ?_
 refine Ln ?_
 refine J_condF rfl ?_
 refine J_skip ?_
 refine seqQ_normal ?_
 refine Sr ?_
 refine Lq (Q_assign rfl) ?_
 refine Ln ?_
 refine J_seq ?_
 refine J_seq ?_
 have et : (four s ++ texts (flat (toPr base))).take 4 = four s := rfl
 have ed : (four s ++ texts (flat (toPr base))).drop 4 = texts (flat (toPr base)) := rfl
 refine J_region ?_
 refine Lq (Q_move rfl) ?_
 refine Lq (Q_ssH 4 rfl rfl rfl (by rw [List.length_append, hfl]; omega)) ?_
 refine L_o rfl rfl rfl (O_s2b tB_enc rfl rfl (by rw [et, hfl]; omega) (fun S => ?_))
 refine JL.norm ?_
 refine Lq (Q_lenAt 0 rfl rfl) ?_
 refine Lq (Q_move rfl) ?_
 refine Ln ?_
 refine J_block ?_
 rw [et]
 refine J.cutB (fun x ρ' L' => x = .normal ∧ envSub [(4, .pointer (some ⟨q, 0, none⟩)), (5, str (four s ++ texts (flat (toPr base)))), (7, .int .i64 (s : Int))] ρ' ∧ Ent L' [snapA ps a b, treeA q [], kvC p pt pl ps saved, F]) ?_ ?_
 ·refine J_loop (fun k : Nat => k ≤ 4) (fun k => [(4, .pointer (some ⟨q, 0, none⟩)), (5, str (four s ++ texts (flat (toPr base)))), (7, .int .i64 (be ((four s).take k) : Int)), (28, S.v), (29, .int .i64 (4 : Int)), (30, .int .i64 (k : Int))]) (fun _ => [slc tB true S (four s), snapA ps a b, treeA q [], kvC p pt pl ps saved, F]) (fun k => 4 - k) 0 (by decide) ⟨rfl, rfl, rfl, rfl, rfl, rfl, trivial⟩ (Ent.refl _) ?_
  intro k hk
  refine Sr ?_
  refine Lq (Q_lss rfl rfl) ?_
  refine Ln ?_
  refine J_seq ?_
  refine J_condD rfl (fun h2 => ?_) (fun h2 => ?_)
  ·have hlt : k < (four s).length := by rw [hfl]; omega
   have hb2 := be_lt4 ((four s).take k) k (by simp; omega)
   have hp := kpow_le (show k < 4 by omega)
   have hs1 : be ((four s).take (k + 1)) = be ((four s).take k) * 256 + (four s)[k].toNat := by rw [List.take_succ_eq_append_getElem hlt, be_snoc]
   have hu8 := (four s)[k].toNat_lt
   generalize be ((four s).take k) = n at *
   refine J_skip ?_
   refine seqQ_normal ?_
   refine J_seq ?_
   refine J_block ?_
   refine Sr ?_
   refine Lq (Q_ixAt 0 k rfl rfl rfl rfl hlt rfl) ?_
   refine Lq (Q_ldEAt 0 k 0 (v := .int .u8 ((four s)[k].toNat : Int)) rfl rfl rfl rfl hlt (by decide) rfl) ?_
   refine Lq (Q_assign rfl) ?_
   refine Ln ?_
   refine J_region ?_
   refine Lq (Q_move rfl) ?_
   refine Lq (Q_shlZ n 8 rfl rfl rfl rfl (by decide) (by omega)) ?_
   refine Lq (Q_move rfl) ?_
   refine Lq (Q_cvt rfl (by first | exact IntWalk.i64_in _ (by omega) | exact IntWalk.u8_in _ (by omega) | exact IntWalk.u32_in _ (by omega) | exact IntWalk.u64_in _ (by omega) | rfl)) ?_
   refine Lq ((Q_orZ (n * 2 ^ 8) (four s)[k].toNat rfl rfl rfl rfl (by omega) (by omega)).as (v' := .int .i64 (be ((four s).take (k + 1)) : Int)) (by rw [kor_8 n _ (by omega), hs1])) ?_
   refine Lq (Q_assign rfl) ?_
   refine JL_nil ?_
   refine blockQ_normal ?_
   refine seqQ_normal ?_
   refine J_region ?_
   refine Lq (Q_add rfl rfl (by first | exact IntWalk.i64_in _ (by omega) | exact IntWalk.u8_in _ (by omega) | exact IntWalk.u32_in _ (by omega) | exact IntWalk.u64_in _ (by omega) | rfl)) ?_
   refine Lq (Q_move rfl) ?_
   refine JL_nil ?_
   exact loopQ_normal (k + 1) (by show k + 1 ≤ 4; omega) (by show 4 - (k + 1) < 4 - k; omega) ⟨rfl, rfl, rfl, rfl, rfl, rfl, trivial⟩ (Ent.refl _)
  ·obtain rfl : k = 4 := by omega
   have hbe : be ((four s).take 4) = s := by
    show be (four s) = s
    rw [be_four]; omega
   rw [hbe]
   refine J_exit ?_
   refine seqQ_exit ?_
   refine loopQ_exit ?_
   refine blockQ_hit ?_
   exact ⟨rfl, ⟨rfl, rfl, rfl, trivial⟩, Ent.re [1,2,3,4] rfl⟩
 rintro _ ρ1 L1 ⟨rfl, hsub, hent⟩
 refine seqQ_normal ?_
 refine J.sub hsub ?_
 refine J.ent hent ?_
 clear hsub hent
 refine J_seq ?_
 have hun := unpack_ok E (texts (flat (toPr base))) (by omega)
 rw [hup] at hun
 refine J_region ?_
 refine Lq (Q_move rfl) ?_
 refine Lq (Q_ssL 4 rfl rfl rfl (by rw [List.length_append, hfl]; omega)) ?_
 refine L_o rfl rfl rfl (O_call [] [0,1,2,3] hun rfl rfl ?_)
 rintro _ _ ⟨S2, rfl, rfl⟩
 refine JL.norm ?_
 refine Lq (Q_move rfl) ?_
 refine Lq (Q_extract (v := S2.v) rfl rfl) ?_
 refine Lq (Q_extract (v := .int .i64 (unpE (texts (flat (toPr base))))) rfl rfl) ?_
 refine Lq (Q_assign rfl) ?_
 refine Lq (Q_assign rfl) ?_
 refine Ln ?_
 refine J_seq ?_
 refine J_seq ?_
 rw [← slc_toPr]
 refine J_region ?_
 refine Lq (Q_move rfl) ?_
 refine Lq (Q_lenAt 0 rfl rfl) ?_
 refine Lq (Q_move rfl) ?_
 refine Ln ?_
 refine J_block ?_
 refine J.cutB (fun x ρ' L' => x = .normal ∧ envSub [(4, .pointer (some ⟨q, 0, none⟩)), (7, .int .i64 (s : Int))] ρ' ∧ Ent L' [snapA ps a b, treeA q base, kvC p pt pl ps saved, F]) ?_ ?_
 ·refine J_loop (fun k : Nat => k ≤ base.length) (fun k => [(4, .pointer (some ⟨q, 0, none⟩)), (7, .int .i64 (s : Int)), (46, S2.v), (47, .int .i64 (base.length : Int)), (48, .int .i64 (k : Int))]) (fun k => [slc tKv true S2 base, treeA q (base.take k), snapA ps a b, kvC p pt pl ps saved, F]) (fun k => base.length - k) 0 (Nat.zero_le _) ⟨rfl, rfl, rfl, rfl, rfl, trivial⟩ (Ent.re [0,2,1,3,4] rfl) ?_
  intro k hk
  refine Sr ?_
  refine Lq (Q_lss rfl rfl) ?_
  refine Ln ?_
  refine J_seq ?_
  refine J_condD rfl (fun h2 => ?_) (fun h2 => ?_)
  ·have hlt : k < base.length := by omega
   have htp := take_put hu hlt
   have hput := tput_ok E q (base.take k) base[k].key base[k].val (by simp; omega)
   rw [htp] at hput
   refine J_skip ?_
   refine seqQ_normal ?_
   refine J_seq ?_
   refine J_block ?_
   refine Sr ?_
   refine Lq (Q_ixAt 0 k rfl rfl rfl rfl hlt rfl) ?_
   refine Lq (Q_ldEAAt 0 k 0 (vs := kvV base[k]) rfl rfl rfl rfl hlt (by decide) rfl) ?_
   refine L_o rfl rfl rfl (O_alloc fun b13 => ?_)
   refine L_s rfl rfl (O_stW 0 rfl rfl rfl rfl ?_)
   refine JL.norm ?_
   refine Ln ?_
   refine J_region ?_
   refine Lq (Q_move rfl) ?_
   refine Lq (Q_fa0 rfl) ?_
   refine Lq (Q_ld 0 rfl rfl rfl rfl) ?_
   refine Lq (Q_fa0 rfl) ?_
   refine Lq (Q_ld 0 rfl rfl rfl rfl) ?_
   refine L_o rfl rfl rfl (O_call [2] [0,1,3,4,5] hput rfl rfl ?_)
   rintro _ _ ⟨rfl, rfl⟩
   refine JL.norm ?_
   refine JL_nil ?_
   refine blockQ_normal ?_
   refine seqQ_normal ?_
   refine J_region ?_
   refine Lq (Q_add rfl rfl (by first | exact IntWalk.i64_in _ (by omega) | exact IntWalk.u8_in _ (by omega) | exact IntWalk.u32_in _ (by omega) | exact IntWalk.u64_in _ (by omega) | rfl)) ?_
   refine Lq (Q_move rfl) ?_
   refine JL_nil ?_
   exact loopQ_normal (k + 1) hlt (by show base.length - (k + 1) < base.length - k; omega) ⟨rfl, rfl, rfl, rfl, rfl, trivial⟩ (Ent.re [2,0,3,4,5] rfl)
  ·obtain rfl : k = base.length := by omega
   rw [List.take_length]
   refine J_exit ?_
   refine seqQ_exit ?_
   refine loopQ_exit ?_
   refine blockQ_hit ?_
   exact ⟨rfl, ⟨rfl, rfl, trivial⟩, Ent.re [2,1,3,4] rfl⟩
 rintro _ ρ2 L2 ⟨rfl, hsub, hent⟩
 refine seqQ_normal ?_
 refine J.sub hsub ?_
 refine J.ent hent ?_
 clear hsub hent
 refine Sr ?_
 refine Lq (Q_move rfl) ?_
 refine Lq (Q_move rfl) ?_
 refine Lq (Q_assign rfl) ?_
 refine Lq (Q_assign rfl) ?_
 refine Ln ?_
 refine J_ret ?_
 exact retQ_ret _ [kvC p pt pl ps saved, snapA ps a b, treeA q base] (.cons (RV_tmp rfl) (.cons (RV_tmp rfl) .nil)) ⟨q, rfl, rfl⟩ (Ent.re [2,0,1,3] rfl)
end Go.Proofs
/- A state saved. -/
set_option autoImplicit false
namespace Go.Proofs
open Go.SL Go.Proofs.Bt
/-- The bytes of a state. -/
def bodyK (s : Nat) (t : List Kv) : List UInt8 := four s ++ texts (flat (toPr t))
structure Cp where
 g : Lg
 a : List UInt8
 b : List UInt8
 saved : Int
def cpE (g : Lg) (t : List Kv) (a b : List UInt8) (upto : Int) : Int := (doW a b (bodyK (nextOf (syncL g).fs) t) upto).2.2
def cpS (x : Cp) (t : List Kv) (upto : Int) : Cp :=
 let w := doW x.a x.b (bodyK (nextOf (syncL x.g).fs) t) upto
 if w.2.2 = 0 ∧ loadN w.1 w.2.1 ≠ loadN x.a x.b then ⟨(dropL (syncL x.g) (nextOf (syncL x.g).fs)).1, w.1, w.2.1, nextOf (syncL x.g).fs⟩
 else ⟨syncL x.g, w.1, w.2.1, x.saved⟩
theorem runR_most {most : Int} : ∀ {l acc : List Kv}, ((acc.length + l.length : Nat) : Int) ≤ most → (runR [] most acc l).1 = acc ++ l
 | [], acc, _ => by simp [runR]
 | x :: xs, acc, h => by
  have hs : rngStep [] most acc x = (acc ++ [x], decide (((acc ++ [x]).length : Int) < most)) := by unfold rngStep; rw [if_neg (by simp)]
  by_cases h3 : ((acc ++ [x]).length : Int) < most
  ·rw [runR_ct (by rw [hs]; exact decide_eq_true h3), hs]
   rw [runR_most (by simp only [List.length_append, List.length_cons, List.length_nil] at h ⊢; omega)]
   simp
  ·rw [runR_cf (by rw [hs]; exact decide_eq_false h3), hs]
   have : xs = [] := by
    simp only [List.length_append, List.length_cons, List.length_nil] at h h3
    exact List.length_eq_zero_iff.1 (by omega)
   rw [this]
theorem rngL_most {l : List Kv} {most : Int} (h1 : 1 ≤ most) (h : (l.length : Int) ≤ most) : rngL l [] [] most = l := by
 unfold rngL
 rw [if_neg (by omega), flF_nil, runR_most (by simpa using h)]
 rfl
theorem krange_tP (E : World) (pt : Nat) (t : List Kv) (ht : t.length ≤ 100000) : Does Tryz.prog E 48 [.pointer (some ⟨pt, 0, none⟩), str [], str [], .int .i64 (t.length : Int)] [treeA pt t] fun r L => ∃ S : SV, r = S.v ∧ L = [treeA pt t, slc tP true S (toPr t)] := by
 have h := trange_ok E pt t [] [] (t.length : Int) (by omega)
 have e : rngL t [] [] (t.length : Int) = t := by
  by_cases h0 : t = []
  ·subst h0; rfl
  ·exact rngL_most (by have := List.length_pos_iff.2 h0; omega) (by omega)
 rw [e] at h
 refine h.mono ?_
 rintro v L ⟨S, hv, hL⟩
 exact ⟨S, hv, by rw [hL, slc_toPr]⟩
attribute [local irreducible] J JL QOp JOp seqQ blockQ loopQ retQ slc cel hex star pur stars Does RV Ent pAt scopeQ
attribute [local irreducible] nodeA nodeX treeA segA snapA
theorem kcp_ok (E : World) (p pt pl ps c : Nat) (saved : Int) (g : Lg) (t : List Kv) (a b : List UInt8) (upto : Int) (hg : Good g c) (hc : c ≤ 1000000) (ht : t.length ≤ 100000) (hW : (texts (flat (toPr t))).length ≤ 100000000) (ha : a.length ≤ 40000) (hb : b.length ≤ 40000) :
 Does Tryz.prog E 18 [.pointer (some ⟨p, 0, none⟩), .int .i64 upto] [kvC p pt pl ps saved, treeA pt t, segA pl g, snapA ps a b] fun r L => r = .int .i64 (cpE g t a b upto) ∧ L = [kvC p pt pl ps (cpS ⟨g, a, b, saved⟩ t upto).saved, treeA pt t, segA pl (cpS ⟨g, a, b, saved⟩ t upto).g, snapA ps (cpS ⟨g, a, b, saved⟩ t upto).a (cpS ⟨g, a, b, saved⟩ t upto).b] := by
 have hg2 := hg.sync
 have hn := hg2.next
 have hlen := doW_len (body := bodyK (nextOf (syncL g).fs) t) (upto := upto) ha hb
 have hrng := krange_tP E pt t ht
 have hpk := fun S => pack_ok E true S (toPr t) (by rw [toPr, List.length_map]; omega) hW
 have hwr := swrite_ok E ps a b (bodyK (nextOf (syncL g).fs) t) upto (by omega) (by omega)
 have hdr := gdrop_ok E pl c (syncL g) hg2 hc (nextOf (syncL g).fs : Int)
 have hfl : (four (nextOf (syncL g).fs)).length = 4 := rfl
 have hld := sload_ok E ps (doW a b (bodyK (nextOf (syncL g).fs) t) upto).1 (doW a b (bodyK (nextOf (syncL g).fs) t) upto).2.1 (by omega) (by omega)
 unfold cpE cpS
 dsimp only
 unfold bodyK at *
 refine Does.of Tryz.func18 rfl Tryz.ntmps18 rfl rfl fun F => ?_
 refine J.norm ?_
 refine Sr ?_
 refine Lq (Q_assign rfl) ?_
 refine Ln ?_
 refine J_seq ?_
 refine Sr ?_
 refine Lq (Q_move rfl) ?_
 refine Lq ((Q_peql rfl rfl).as (v' := .bool false) rfl) ?_
 refine Ln ?_
 refine J_condF rfl ?_
 refine J_skip ?_
 refine seqQ_normal ?_
 refine Sr ?_
 refine Lq (Q_move rfl) ?_
 refine Lq (Q_nilCheck rfl) ?_
 refine Lq (Q_fa0 rfl) ?_
 refine Lq (Q_ld 0 rfl rfl rfl rfl) ?_
 refine L_o rfl rfl rfl (O_call [2] [0,1,3,4] (gsync_ok E pl c g hg hc) rfl rfl ?_)
 rintro _ _ ⟨rfl, rfl⟩
 refine JL.norm ?_
 refine Ln ?_
 refine Sr ?_
 refine Lq (Q_move rfl) ?_
 refine Lq (Q_nilCheck rfl) ?_
 refine Lq (Q_fa0 rfl) ?_
 refine Lq (Q_ld 1 rfl rfl rfl rfl) ?_
 refine L_o rfl rfl rfl (O_call [0] [1,2,3,4] (gnext_ok E pl c (syncL g) hg2 hc) rfl rfl ?_)
 rintro _ _ ⟨rfl, rfl⟩
 refine JL.norm ?_
 refine Lq (Q_assign rfl) ?_
 refine Ln ?_
 refine Sr ?_
 refine Lq (Q_move rfl) ?_
 refine Lq (Q_nilCheck rfl) ?_
 refine Lq (Q_fa0 rfl) ?_
 refine Lq (Q_ld 1 rfl rfl rfl rfl) ?_
 refine L_o rfl rfl rfl (O_call [3] [0,1,2,4] (sload_ok E ps a b (by omega) (by omega)) rfl rfl ?_)
 rintro _ _ ⟨rfl, rfl⟩
 refine JL.norm ?_
 refine Lq (Q_move rfl) ?_
 refine Lq (Q_extract (v := str (loadT a b)) rfl rfl) ?_
 refine Lq (Q_extract (v := .int .i64 (loadN a b : Int)) rfl rfl) ?_
 refine Lq (Q_assign rfl) ?_
 refine Lq (Q_assign rfl) ?_
 refine Ln ?_
 refine J_seq ?_
 refine J_seq ?_
 generalize hs : nextOf (syncL g).fs = s at *
 generalize htx : texts (flat (toPr t)) = tx at *
 generalize hw : doW a b (four s ++ tx) upto = w at *
 refine DH [2] [0,1,2,3,4,6,7,8,9,10,11,12,13,17,18,20] (.quiet 0 (.quiet 1 (.quiet 2 (.quiet 3 (.quiet 4 (.quiet 6 (.quiet 7 (.quiet 8 (.quiet 9 (.quiet 10 (.quiet 11 (.quiet 12 (.quiet 13 (.quiet 18 (.loud 5 (.loud 14 (.loud 15 (.loud 16 (.quiet 17 (.loud 19 (.quiet 20 .done))))))))))))))))))))) Tryz.mixed ?_
 refine Sq (Ent.re [2] rfl) rfl (Q_move rfl) ?_
 refine Sq (Ent.re [2] rfl) rfl (Q_nilCheck rfl) ?_
 refine Sq (Ent.re [2] rfl) rfl (Q_fa0 rfl) ?_
 refine Sq (Ent.re [2] rfl) rfl (Q_ld 0 rfl rfl rfl rfl) ?_
 refine Sq (Ent.re [2] rfl) rfl (Q_move rfl) ?_
 refine Sq (Ent.re [2] rfl) rfl (Q_move rfl) ?_
 refine Sq (Ent.re [2] rfl) rfl (Q_nilCheck rfl) ?_
 refine Sq (Ent.re [2] rfl) rfl (Q_fa0 rfl) ?_
 refine Sq (Ent.re [2] rfl) rfl (Q_ld 0 rfl rfl rfl rfl) ?_
 refine Sq (Ent.re [2] rfl) rfl (Q_move rfl) ?_
 refine Sq (Ent.re [2] rfl) rfl (Q_nilCheck rfl) ?_
 refine Sq (Ent.re [2] rfl) rfl (Q_fa0 rfl) ?_
 refine Sq (Ent.re [2] rfl) rfl (Q_ld 0 rfl rfl rfl rfl) ?_
 refine Sq (Ent.re [2] rfl) rfl (Q_move rfl) ?_
 refine S_o rfl rfl rfl rfl (O_call [] [0,1,2,3,4] (kfour_ok E s) rfl rfl ?_)
 (rintro _ _ ⟨rfl, rfl⟩; refine ⟨_, fun _ => ⟨Ent.reN [2] rfl, Ent.refl _⟩, ?_⟩)
 refine JS.norm ?_
 refine S_o rfl rfl rfl rfl (O_call [3] [0,1,2,4] (tlen_ok E pt t) rfl rfl ?_)
 (rintro _ _ ⟨rfl, rfl⟩; refine ⟨_, fun _ => ⟨Ent.reN [3] rfl, Ent.refl _⟩, ?_⟩)
 refine JS.norm ?_
 refine S_o rfl rfl rfl rfl (O_call [0] [1,2,3,4] hrng rfl rfl ?_)
 (rintro _ _ ⟨S, rfl, rfl⟩; refine ⟨_, fun _ => ⟨Ent.reN [4] rfl, Ent.refl _⟩, ?_⟩)
 refine JS.norm ?_
 refine S_o rfl rfl rfl rfl (O_call [1] [0,2,3,4,5] (hpk S) rfl rfl ?_)
 (rintro _ _ ⟨rfl, rfl⟩; refine ⟨_, fun _ => ⟨Ent.reN [4] rfl, Ent.refl _⟩, ?_⟩)
 refine JS.norm ?_
 refine Sq (Ent.re [4] rfl) rfl (Q_sadd rfl rfl (by rw [hfl]; omega)) ?_
 refine S_o rfl rfl rfl rfl (O_call [2] [0,1,3,4,5] hwr rfl rfl ?_)
 (rintro _ _ ⟨rfl, rfl⟩; refine ⟨_, fun _ => ⟨Ent.reN [4] rfl, Ent.refl _⟩, ?_⟩)
 refine JS.norm ?_
 refine Sq (Ent.re [4] rfl) rfl (Q_assign rfl) ?_
 refine S_nil ?_
 refine seqQ_normal ?_
 refine J_seq ?_
 refine J.ent (Ent.re [0,3,4,2,5] rfl) ?_
 by_cases he : w.2.2 = 0
 ·skip
  refine J_region ?_
  refine Lq (Q_move rfl) ?_
  refine Lq ((Q_neq rfl rfl).as (v' := .bool false) (congrArg Value.bool (decide_eq_false (by omega)))) ?_
  refine Ln ?_
  refine J_condF rfl ?_
  refine J_skip ?_
  refine seqQ_normal ?_
  refine J_seq ?_
  refine Sr ?_
  refine Lq (Q_move rfl) ?_
  refine Lq (Q_nilCheck rfl) ?_
  refine Lq (Q_fa0 rfl) ?_
  refine Lq (Q_ld 2 rfl rfl rfl rfl) ?_
  refine L_o rfl rfl rfl (O_call [0] [1,2,3,4] hld rfl rfl ?_)
  rintro _ _ ⟨rfl, rfl⟩
  refine JL.norm ?_
  refine Lq (Q_move rfl) ?_
  refine Lq (Q_extract (v := str (loadT w.1 w.2.1)) rfl rfl) ?_
  refine Lq (Q_extract (v := .int .i64 (loadN w.1 w.2.1 : Int)) rfl rfl) ?_
  refine Lq (Q_assign rfl) ?_
  refine Lq (Q_assign rfl) ?_
  refine Ln ?_
  refine J_seq ?_
  by_cases hd : loadN w.1 w.2.1 = loadN a b
  ·rw [if_neg (fun h => h.2 hd)]
   refine J_region ?_
   refine Lq (Q_move rfl) ?_
   refine Lq (Q_move rfl) ?_
   refine Lq ((Q_neq rfl rfl).as (v' := .bool false) (congrArg Value.bool (decide_eq_false (by omega)))) ?_
   refine Ln ?_
   refine J_condF rfl ?_
   refine J_skip ?_
   refine seqQ_normal ?_
   refine Sr ?_
   refine Lq (Q_assign rfl) ?_
   refine Ln ?_
   refine J_ret ?_
   exact retQ_ret _ [kvC p pt pl ps saved, treeA pt t, segA pl (syncL g), snapA ps w.1 w.2.1] (.cons (RV_tmp rfl) .nil) ⟨by rw [he]; rfl, rfl⟩ (Ent.re [2,3,1,0,4] rfl)
  ·rw [if_pos ⟨he, hd⟩]
   refine J_region ?_
   refine Lq (Q_move rfl) ?_
   refine Lq (Q_move rfl) ?_
   refine Lq ((Q_neq rfl rfl).as (v' := .bool true) (congrArg Value.bool (decide_eq_true (by omega)))) ?_
   refine Ln ?_
   refine J_condT rfl ?_
   refine Sr ?_
   refine Lq (Q_move rfl) ?_
   refine Lq (Q_move rfl) ?_
   refine Lq (Q_nilCheck rfl) ?_
   refine Lq (Q_fa0 rfl) ?_
   refine L_s rfl rfl (O_st1 2 rfl rfl rfl rfl rfl ?_)
   refine JL.norm ?_
   refine Ln ?_
   refine J_region ?_
   refine Lq (Q_move rfl) ?_
   refine Lq (Q_nilCheck rfl) ?_
   refine Lq (Q_fa0 rfl) ?_
   refine Lq (Q_ld 2 rfl rfl rfl rfl) ?_
   refine Lq (Q_move rfl) ?_
   refine L_o rfl rfl rfl (O_call [1] [0,2,3,4] hdr rfl rfl ?_)
   rintro _ _ ⟨rfl, rfl⟩
   refine JL.norm ?_
   refine Ln ?_
   refine Sr ?_
   refine Lq (Q_assign rfl) ?_
   refine Ln ?_
   refine J_ret ?_
   exact retQ_ret _ [kvC p pt pl ps (s : Int), treeA pt t, segA pl (dropL (syncL g) (s : Int)).1, snapA ps w.1 w.2.1] (.cons (RV_tmp rfl) .nil) ⟨by rw [he]; rfl, rfl⟩ (Ent.re [2,3,0,1,4] rfl)
 ·rw [if_neg (fun h => he h.1)]
  refine J_region ?_
  refine Lq (Q_move rfl) ?_
  refine Lq ((Q_neq rfl rfl).as (v' := .bool true) (congrArg Value.bool (decide_eq_true he))) ?_
  refine Ln ?_
  refine J_condT rfl ?_
  refine Sr ?_
  refine Lq (Q_move rfl) ?_
  refine Lq (Q_assign rfl) ?_
  refine Ln ?_
  refine J_ret ?_
  refine seqQ_ret ?_
  exact retQ_ret _ [kvC p pt pl ps saved, treeA pt t, segA pl (syncL g), snapA ps w.1 w.2.1] (.cons (RV_tmp rfl) .nil) ⟨rfl, rfl⟩ (Ent.re [2,3,1,0,4] rfl)
end Go.Proofs
/- A crash, and what is there behind it. -/
set_option autoImplicit false
namespace Go.Proofs
open Go.SL Go.Proofs.Bt
/-- What the slots tell: the state with its number. -/
structure Told (a b : List UInt8) (s : Nat) (base : List Kv) : Prop where
 la : a.length ≤ 40000
 lb : b.length ≤ 40000
 h : (loadN a b = 0 ∧ s = 0 ∧ base = []) ∨ (loadN a b ≠ 0 ∧ loadT a b = bodyK s base)
 s : s < 2 ^ 31
 up : Up base
 w : (texts (flat (toPr base))).length ≤ 40000
theorem texts_mem {l : List (List UInt8)} {x : List UInt8} (h : x ∈ l) : x.length ≤ (texts l).length := by
 induction l with
 | nil => cases h
 | cons y l ih =>
  have e : texts (y :: l) = four y.length ++ y ++ texts l := by simp [texts]
  rw [e, List.length_append, List.length_append]
  rcases List.mem_cons.1 h with rfl | h
  ·omega
  ·have := ih h; omega
theorem texts_w (l : List Kv) : 8 * l.length ≤ (texts (flat (toPr l))).length := by
 induction l with
 | nil => exact Nat.zero_le _
 | cons x l ih =>
  have e : texts (flat (toPr (x :: l))) = (four x.key.length ++ x.key) ++ ((four x.val.length ++ x.val) ++ texts (flat (toPr l))) := by
   show texts (x.key :: x.val :: flat (toPr l)) = _
   simp [texts]
  rw [e]
  simp only [List.length_append, List.length_cons, four_len]
  omega
/-- Records n of them from s on, done to a state. -/
def rep (fs : List Fl) (s : Nat) (base : List Kv) : Nat → List Kv
 | 0 => base
 | n + 1 => chL (rep fs s base n) (readC (getL fs ((s + n : Nat) : Int)).1)
theorem chL_up {l : List Kv} (h : Up l) (c : Chg) : Up (chL l c) := by
 cases c with
 | put k v => exact up_put h k v
 | del k => exact up_del h k
 | none => exact h
theorem chL_len {l : List Kv} (h : Up l) (c : Chg) : (chL l c).length ≤ l.length + 1 := by
 cases c with
 | put k v => show (putL l k v).length ≤ _; rw [put_len h]; split <;> omega
 | del k => show (delL l k).length ≤ _; rw [del_len h]; split <;> omega
 | none => show l.length ≤ _; omega
theorem rep_up {fs : List Fl} {s : Nat} {base : List Kv} (h : Up base) : ∀ n, Up (rep fs s base n)
 | 0 => h
 | n + 1 => chL_up (rep_up h n) _
theorem rep_len {fs : List Fl} {s : Nat} {base : List Kv} (h : Up base) : ∀ n, (rep fs s base n).length ≤ base.length + n
 | 0 => Nat.le_refl _
 | n + 1 => by have h1 := chL_len (rep_up (fs := fs) (s := s) h n) (readC (getL fs ((s + n : Nat) : Int)).1); have := rep_len h (fs := fs) (s := s) n; show (chL _ _).length ≤ _; omega
theorem getL_text : ∀ (fs : List Fl) (i : Int), (∀ f ∈ fs, ∀ t ∈ f.l, t.length ≤ 4096) → (getL fs i).1.length ≤ 4096
 | [], _, _ => by simp [getL]
 | f :: r, i, h => by
  rw [getL]
  split
  ·rw [List.getD_eq_getElem?_getD]
   cases e : f.l[(i - f.first).toNat]? with
   | none => simp
   | some t => exact h f (by simp) t (List.mem_of_getElem? e)
  ·exact getL_text r i fun f hf => h f (by simp [hf])
attribute [local irreducible] J JL QOp JOp seqQ blockQ loopQ retQ slc cel hex star pur stars Does RV Ent pAt scopeQ
attribute [local irreducible] nodeA nodeX treeA segA snapA
theorem kloadU_ok (E : World) (p pt pl ps : Nat) (saved : Int) (a b : List UInt8) (s : Nat) (base : List Kv) (h : Told a b s base) : Does Tryz.prog E 52 [.pointer (some ⟨p, 0, none⟩)] [kvC p pt pl ps saved, snapA ps a b] fun r L => ∃ q : Nat, r = .tuple #[.pointer (some ⟨q, 0, none⟩), .int .i64 (s : Int)] ∧ L = [kvC p pt pl ps saved, snapA ps a b, treeA q base] := by
 have ha := h.la
 have hb := h.lb
 have hw := h.w
 have h8 := texts_w base
 rcases h.h with ⟨h1, rfl, rfl⟩ | ⟨h1, h2⟩
 ·exact kload0_ok E p pt pl ps saved a b (by omega) (by omega) h1
 ·exact kload_ok E p pt pl ps saved a b s base (by omega) (by omega) h1 h2 h.s h.up (by omega) (fun x hx => by have := texts_mem hx; omega) (by omega)
theorem kcrash_ok (E : World) (p pt pl ps c : Nat) (saved : Int) (g : Lg) (t : List Kv) (a b : List UInt8) (s keep : Nat) (base : List Kv) (hg : Good g c) (hc : c ≤ 800000) (hT : Told a b s base) (hk : keep < 2 ^ 64) (hf : firstOf (crashL g keep).fs ≤ s) (hn : s ≤ nextOf (crashL g keep).fs) :
 Does Tryz.prog E 20 [.pointer (some ⟨p, 0, none⟩), .int .u64 (keep : Int)] [kvC p pt pl ps saved, treeA pt t, segA pl g, snapA ps a b] fun r L => ∃ q : Nat, r = .tuple #[] ∧ L = [kvC p q pl ps (s : Int), treeA q (rep (crashL g keep).fs s base (nextOf (crashL g keep).fs - s)), segA pl (crashL g keep), snapA ps a b] := by
 have hg2 := hg.crash (keep := keep)
 have hcr := gcrash_ok E pl c g hg (by omega) keep hk
 have hld := kloadU_ok E p pt pl ps saved a b s base hT
 have hbw := texts_w base
 have hbw2 := hT.w
 have hu := hT.up
 have hnx := gnext_ok E pl (c + 8192) (crashL g keep) hg2 (by omega)
 have hfi := gfirst_ok E pl (c + 8192) (crashL g keep) hg2
 have hge := gget_ok E pl (c + 8192) (crashL g keep) hg2 (by omega)
 have hle := hg2.next
 have htx := fun i => getL_text (crashL g keep).fs i (fun f hf => (hg2.file f hf).2.2.1)
 refine Does.of Tryz.func20 rfl Tryz.ntmps20 rfl rfl fun F => ?_
 refine J.norm ?_
 refine J_seq ?_
 refine Sr ?_
 refine Lq (Q_move rfl) ?_
 refine Lq ((Q_peql rfl rfl).as (v' := .bool false) rfl) ?_
 refine Ln ?_
 refine J_condF rfl ?_
 refine J_skip ?_
 refine seqQ_normal ?_
 refine Sr ?_
 refine Lq (Q_move rfl) ?_
 refine Lq (Q_nilCheck rfl) ?_
 refine Lq (Q_fa0 rfl) ?_
 refine Lq (Q_ld 0 rfl rfl rfl rfl) ?_
 refine Lq (Q_move rfl) ?_
 refine L_o rfl rfl rfl (O_call [2] [0,1,3,4] hcr rfl rfl ?_)
 rintro _ _ ⟨rfl, rfl⟩
 refine JL.norm ?_
 refine Ln ?_
 refine J_seq ?_
 generalize crashL g keep = g' at *
 refine J_region ?_
 refine Lq (Q_move rfl) ?_
 refine Lq (Q_move rfl) ?_
 refine Lq (Q_move rfl) ?_
 refine L_o rfl rfl rfl (O_call [1,3] [0,2,4] hld rfl rfl ?_)
 rintro _ _ ⟨q, rfl, rfl⟩
 refine JL.norm ?_
 refine Lq (Q_move rfl) ?_
 refine Lq (Q_extract (v := .pointer (some ⟨q, 0, none⟩)) rfl rfl) ?_
 refine Lq (Q_extract (v := .int .i64 (s : Int)) rfl rfl) ?_
 refine Lq (Q_nilCheck rfl) ?_
 refine Lq (Q_fa0 rfl) ?_
 refine L_s rfl rfl (O_st1 0 rfl rfl rfl rfl rfl ?_)
 refine JL.norm ?_
 refine Lq (Q_nilCheck rfl) ?_
 refine Lq (Q_fa0 rfl) ?_
 refine L_s rfl rfl (O_st1 0 rfl rfl rfl rfl rfl ?_)
 refine JL.norm ?_
 refine Ln ?_
 refine J_seq ?_
 refine J.ent (L' := [kvC p q pl ps (s : Int), treeA q base, segA pl g', snapA ps a b, F]) (Ent.re [0,2,3,1,5] rfl) ?_
 refine DH [0] [0,1,2,3,4,5,6,7,9,10] (.quiet 0 (.quiet 1 (.quiet 2 (.quiet 3 (.quiet 4 (.quiet 5 (.quiet 6 (.quiet 7 (.loud 8 (.quiet 9 (.quiet 10 .done))))))))))) Tryz.mixed ?_
 refine Sq (Ent.re [0] rfl) rfl (Q_move rfl) ?_
 refine Sq (Ent.re [0] rfl) rfl (Q_nilCheck rfl) ?_
 refine Sq (Ent.re [0] rfl) rfl (Q_fa0 rfl) ?_
 refine Sq (Ent.re [0] rfl) rfl (Q_ld 0 rfl rfl rfl rfl) ?_
 refine Sq (Ent.re [0] rfl) rfl (Q_move rfl) ?_
 refine Sq (Ent.re [0] rfl) rfl (Q_nilCheck rfl) ?_
 refine Sq (Ent.re [0] rfl) rfl (Q_fa0 rfl) ?_
 refine Sq (Ent.re [0] rfl) rfl (Q_ld 0 rfl rfl rfl rfl) ?_
 refine S_o rfl rfl rfl rfl (O_call [2] [0,1,3,4] hfi rfl rfl ?_)
 (rintro _ _ ⟨rfl, rfl⟩; refine ⟨_, fun _ => ⟨Ent.reN [1] rfl, Ent.refl _⟩, ?_⟩)
 refine JS.norm ?_
 refine Sq (Ent.re [1] rfl) rfl ((Q_max2 rfl rfl).as (v' := .int .i64 (s : Int)) (congrArg (Value.int .i64) (by omega))) ?_
 refine Sq (Ent.re [1] rfl) rfl (Q_assign rfl) ?_
 refine S_nil ?_
 refine seqQ_normal ?_
 refine J_block ?_
 refine J_loop (fun k : Nat => s + k ≤ nextOf g'.fs) (fun k => [(0, .pointer (some ⟨p, 0, none⟩)), (4, .int .i64 ((s + k : Nat) : Int))]) (fun k => [kvC p q pl ps (s : Int), treeA q (rep g'.fs s base k), segA pl g', snapA ps a b, F]) (fun k => nextOf g'.fs - (s + k)) 0 hn ⟨rfl, rfl, trivial⟩ (Ent.re [1,2,0,3,4] rfl) ?_
 intro k hk2
 refine J_seq ?_
 refine Sr ?_
 refine Lq (Q_move rfl) ?_
 refine Lq (Q_move rfl) ?_
 refine Lq (Q_nilCheck rfl) ?_
 refine Lq (Q_fa0 rfl) ?_
 refine Lq (Q_ld 0 rfl rfl rfl rfl) ?_
 refine L_o rfl rfl rfl (O_call [2] [0,1,3,4] hnx rfl rfl ?_)
 rintro _ _ ⟨rfl, rfl⟩
 refine JL.norm ?_
 refine Lq (Q_lss rfl rfl) ?_
 refine Ln ?_
 refine J_condD rfl (fun h2 => ?_) (fun h2 => ?_)
 ·have hlt : s + k < nextOf g'.fs := by omega
  have hlen := rep_len (fs := g'.fs) (s := s) hu k
  have hst : rep g'.fs s base (k + 1) = chL (rep g'.fs s base k) (readC (getL g'.fs ((s + k : Nat) : Int)).1) := rfl
  have ht2 := htx ((s + k : Nat) : Int)
  have hgi : getV g'.fs ((s + k : Nat) : Int) = .tuple #[str (getL g'.fs ((s + k : Nat) : Int)).1, .int .i64 (getL g'.fs ((s + k : Nat) : Int)).2] := rfl
  have hgk := hge ((s + k : Nat) : Int)
  rw [hgi] at hgk
  generalize getL g'.fs ((s + k : Nat) : Int) = r at *
  generalize hrk : rep g'.fs s base k = l at *
  refine J_skip ?_
  refine seqQ_normal ?_
  refine J_seq ?_
  refine J_block ?_
  refine Sr ?_
  refine Lq (Q_move rfl) ?_
  refine Lq (Q_nilCheck rfl) ?_
  refine Lq (Q_fa0 rfl) ?_
  refine Lq (Q_ld 1 rfl rfl rfl rfl) ?_
  refine Lq (Q_move rfl) ?_
  refine L_o rfl rfl rfl (O_call [0] [1,2,3,4] hgk rfl rfl ?_)
  rintro _ _ ⟨rfl, rfl⟩
  refine JL.norm ?_
  refine Lq (Q_move rfl) ?_
  refine Lq (Q_extract (v := str r.1) rfl rfl) ?_
  refine Lq (Q_extract (v := .int .i64 r.2) rfl rfl) ?_
  refine Lq (Q_assign rfl) ?_
  refine Lq (Q_assign rfl) ?_
  refine Ln ?_
  have hrd := kread_ok E r.1 (by omega)
  cases hr : readC r.1 with
  | put kk vv =>
   rw [hr] at hrd hst
   refine DH [1] [0,2,3,4,5,6,7,8] (.quiet 0 (.quiet 2 (.quiet 3 (.quiet 4 (.quiet 5 (.loud 1 (.quiet 6 (.quiet 7 (.quiet 8 (.loud 9 .done)))))))))) Tryz.mixed ?_
   refine Sq (Ent.re [1] rfl) rfl (Q_move rfl) ?_
   refine Sq (Ent.re [1] rfl) rfl (Q_move rfl) ?_
   refine Sq (Ent.re [1] rfl) rfl (Q_nilCheck rfl) ?_
   refine Sq (Ent.re [1] rfl) rfl (Q_fa0 rfl) ?_
   refine Sq (Ent.re [1] rfl) rfl (Q_ld 0 rfl rfl rfl rfl) ?_
   refine S_o rfl rfl rfl rfl (O_call [] [0,1,2,3,4] hrd rfl rfl ?_)
   (rintro _ _ ⟨rfl, rfl⟩; refine ⟨_, fun _ => ⟨Ent.reN [1] rfl, Ent.refl _⟩, ?_⟩)
   refine JS.norm ?_
   refine Sq (Ent.re [1] rfl) rfl (Q_makeFunc (xs := [.tmp 55]) (ys := []) (vs := [chV (.put kk vv)]) (us := []) rfl rfl) ?_
   refine Sq (Ent.re [1] rfl) rfl (Q_nilMeth metPD rfl) ?_
   refine Sq (Ent.re [1] rfl) rfl (Q_move rfl) ?_
   refine S_o rfl rfl rfl rfl (O_invoke [2] [0,1,3,4] metPD rfl rfl (putD_ok E q l kk vv (by omega)) rfl ?_)
   (rintro _ _ ⟨rfl, rfl⟩; refine ⟨_, fun _ => ⟨Ent.reN [2] rfl, Ent.refl _⟩, ?_⟩)
   refine JS.norm ?_
   refine S_nil ?_
   refine blockQ_normal ?_
   refine seqQ_normal ?_
   refine J_region ?_
   refine Lq (Q_move rfl) ?_
   refine Lq (Q_add rfl rfl (by first | exact IntWalk.i64_in _ (by omega) | exact IntWalk.u8_in _ (by omega) | exact IntWalk.u32_in _ (by omega) | exact IntWalk.u64_in _ (by omega) | rfl)) ?_
   refine Lq (Q_assign rfl) ?_
   refine JL_nil ?_
   refine loopQ_normal (k + 1) (by show s + (k + 1) ≤ _; omega) (by show nextOf g'.fs - (s + (k + 1)) < nextOf g'.fs - (s + k); omega) ⟨rfl, rfl, trivial⟩ ?_
   show Ent _ [kvC p q pl ps (s : Int), treeA q (rep g'.fs s base (k + 1)), segA pl g', snapA ps a b, F]
   rw [hst]
   exact Ent.re [2,0,1,3,4] rfl
  | del kk =>
   rw [hr] at hrd hst
   refine DH [1] [0,2,3,4,5,6,7,8] (.quiet 0 (.quiet 2 (.quiet 3 (.quiet 4 (.quiet 5 (.loud 1 (.quiet 6 (.quiet 7 (.quiet 8 (.loud 9 .done)))))))))) Tryz.mixed ?_
   refine Sq (Ent.re [1] rfl) rfl (Q_move rfl) ?_
   refine Sq (Ent.re [1] rfl) rfl (Q_move rfl) ?_
   refine Sq (Ent.re [1] rfl) rfl (Q_nilCheck rfl) ?_
   refine Sq (Ent.re [1] rfl) rfl (Q_fa0 rfl) ?_
   refine Sq (Ent.re [1] rfl) rfl (Q_ld 0 rfl rfl rfl rfl) ?_
   refine S_o rfl rfl rfl rfl (O_call [] [0,1,2,3,4] hrd rfl rfl ?_)
   (rintro _ _ ⟨rfl, rfl⟩; refine ⟨_, fun _ => ⟨Ent.reN [1] rfl, Ent.refl _⟩, ?_⟩)
   refine JS.norm ?_
   refine Sq (Ent.re [1] rfl) rfl (Q_makeFunc (xs := [.tmp 55]) (ys := []) (vs := [chV (.del kk)]) (us := []) rfl rfl) ?_
   refine Sq (Ent.re [1] rfl) rfl (Q_nilMeth metDD rfl) ?_
   refine Sq (Ent.re [1] rfl) rfl (Q_move rfl) ?_
   refine S_o rfl rfl rfl rfl (O_invoke [2] [0,1,3,4] metDD rfl rfl (delD_ok E q l kk (by omega)) rfl ?_)
   (rintro _ _ ⟨rfl, rfl⟩; refine ⟨_, fun _ => ⟨Ent.reN [2] rfl, Ent.refl _⟩, ?_⟩)
   refine JS.norm ?_
   refine S_nil ?_
   refine blockQ_normal ?_
   refine seqQ_normal ?_
   refine J_region ?_
   refine Lq (Q_move rfl) ?_
   refine Lq (Q_add rfl rfl (by first | exact IntWalk.i64_in _ (by omega) | exact IntWalk.u8_in _ (by omega) | exact IntWalk.u32_in _ (by omega) | exact IntWalk.u64_in _ (by omega) | rfl)) ?_
   refine Lq (Q_assign rfl) ?_
   refine JL_nil ?_
   refine loopQ_normal (k + 1) (by show s + (k + 1) ≤ _; omega) (by show nextOf g'.fs - (s + (k + 1)) < nextOf g'.fs - (s + k); omega) ⟨rfl, rfl, trivial⟩ ?_
   show Ent _ [kvC p q pl ps (s : Int), treeA q (rep g'.fs s base (k + 1)), segA pl g', snapA ps a b, F]
   rw [hst]
   exact Ent.re [2,0,1,3,4] rfl
  | none =>
   rw [hr] at hrd hst
   refine DH [1] [0,2,3,4,5,6,7,8] (.quiet 0 (.quiet 2 (.quiet 3 (.quiet 4 (.quiet 5 (.loud 1 (.quiet 6 (.quiet 7 (.quiet 8 (.loud 9 .done)))))))))) Tryz.mixed ?_
   refine Sq (Ent.re [1] rfl) rfl (Q_move rfl) ?_
   refine Sq (Ent.re [1] rfl) rfl (Q_move rfl) ?_
   refine Sq (Ent.re [1] rfl) rfl (Q_nilCheck rfl) ?_
   refine Sq (Ent.re [1] rfl) rfl (Q_fa0 rfl) ?_
   refine Sq (Ent.re [1] rfl) rfl (Q_ld 0 rfl rfl rfl rfl) ?_
   refine S_o rfl rfl rfl rfl (O_call [] [0,1,2,3,4] hrd rfl rfl ?_)
   (rintro _ _ ⟨rfl, rfl⟩; refine ⟨_, fun _ => ⟨Ent.reN [1] rfl, Ent.refl _⟩, ?_⟩)
   refine JS.norm ?_
   refine Sq (Ent.re [1] rfl) rfl (Q_makeFunc (xs := [.tmp 55]) (ys := []) (vs := [chV .none]) (us := []) rfl rfl) ?_
   refine Sq (Ent.re [1] rfl) rfl (Q_nilMeth metND rfl) ?_
   refine Sq (Ent.re [1] rfl) rfl (Q_move rfl) ?_
   refine S_o rfl rfl rfl rfl (O_invoke [2] [0,1,3,4] metND rfl rfl (noneD_ok E q l) rfl ?_)
   (rintro _ _ ⟨rfl, rfl⟩; refine ⟨_, fun _ => ⟨Ent.reN [2] rfl, Ent.refl _⟩, ?_⟩)
   refine JS.norm ?_
   refine S_nil ?_
   refine blockQ_normal ?_
   refine seqQ_normal ?_
   refine J_region ?_
   refine Lq (Q_move rfl) ?_
   refine Lq (Q_add rfl rfl (by first | exact IntWalk.i64_in _ (by omega) | exact IntWalk.u8_in _ (by omega) | exact IntWalk.u32_in _ (by omega) | exact IntWalk.u64_in _ (by omega) | rfl)) ?_
   refine Lq (Q_assign rfl) ?_
   refine JL_nil ?_
   refine loopQ_normal (k + 1) (by show s + (k + 1) ≤ _; omega) (by show nextOf g'.fs - (s + (k + 1)) < nextOf g'.fs - (s + k); omega) ⟨rfl, rfl, trivial⟩ ?_
   show Ent _ [kvC p q pl ps (s : Int), treeA q (rep g'.fs s base (k + 1)), segA pl g', snapA ps a b, F]
   rw [hst]
   exact Ent.re [2,0,1,3,4] rfl
 ·obtain rfl : k = nextOf g'.fs - s := by omega
  refine J_exit ?_
  refine seqQ_exit ?_
  refine loopQ_exit ?_
  refine blockQ_hit ?_
  exact retQ_normal [] [kvC p q pl ps (s : Int), treeA q (rep g'.fs s base (nextOf g'.fs - s)), segA pl g', snapA ps a b] .nil ⟨q, rfl, rfl⟩ (Ent.re [1,2,0,3,4] rfl)
end Go.Proofs
/- A store's state in plain Lean: what is done to it keeps what holds of it. -/
set_option autoImplicit false
namespace Go.Proofs
open Go.SL Go.Proofs.Bt
/-! ### The weight of pairs -/
def wt (l : List Kv) : Nat := (l.map fun x => 8 + x.key.length + x.val.length).sum
theorem wt_cons (x : Kv) (l : List Kv) : wt (x :: l) = 8 + x.key.length + x.val.length + wt l := by simp [wt]
theorem wt_app (a b : List Kv) : wt (a ++ b) = wt a + wt b := by simp [wt]
theorem texts_wt (l : List Kv) : (texts (flat (toPr l))).length = wt l := by
 induction l with
 | nil => rfl
 | cons x l ih =>
  have e : texts (flat (toPr (x :: l))) = (four x.key.length ++ x.key) ++ ((four x.val.length ++ x.val) ++ texts (flat (toPr l))) := by
   show texts (x.key :: x.val :: flat (toPr l)) = _
   simp [texts]
  rw [e, wt_cons]
  simp only [List.length_append, four_len]
  omega
theorem wt_lo_hi (l : List Kv) (k : Ky) : wt (lo l k) + wt (hi l k) ≤ wt l := by
 induction l with
 | nil => simp [lo, hi, wt]
 | cons x l ih =>
  unfold lo hi at ih ⊢
  rw [List.filter_cons, List.filter_cons, wt_cons]
  cases h1 : kl x.key k with
  | true => rw [kl_asymm h1, if_pos rfl, if_neg (by simp), wt_cons]; omega
  | false =>
   rw [if_neg (by simp)]
   split
   ·rw [wt_cons]; omega
   ·omega
def wC : Chg → Nat
 | .put k v => 8 + k.length + v.length
 | _ => 0
theorem wt_chL (l : List Kv) (c : Chg) : wt (chL l c) ≤ wt l + wC c := by
 cases c with
 | put k v =>
  have h := wt_lo_hi l k
  show wt (lo l k ++ ⟨k, v⟩ :: hi l k) ≤ wt l + (8 + k.length + v.length)
  rw [wt_app, wt_cons]
  dsimp only
  omega
 | del k =>
  have h := wt_lo_hi l k
  show wt (lo l k ++ hi l k) ≤ _
  rw [wt_app]; omega
 | none => exact Nat.le_add_right ..
theorem readT_sum : ∀ (m : Nat) (s : List UInt8) (l : List (List UInt8)), s.length ≤ m → readT s = some l → (l.map fun x => 4 + x.length).sum = s.length
 | m, s, l, hm, h => by
  by_cases h0 : s = []
  ·subst h0
   rw [readT_nil] at h
   cases h; rfl
  ·cases hn : nextT s with
   | none => rw [readT_none h0 hn] at h; cases h
   | some tr =>
    obtain ⟨t, r⟩ := tr
    rw [readT_some h0 hn] at h
    have hlt := nextT_lt hn
    have hsl : 4 + t.length + r.length = s.length := by
     unfold nextT at hn
     split at hn
     ·cases hn
     ·split at hn
      ·cases hn
      ·simp only [Option.some.injEq, Prod.mk.injEq] at hn
       obtain ⟨rfl, rfl⟩ := hn
       simp only [List.length_take, List.length_drop] at *
       omega
    cases m with
    | zero => omega
    | succ m =>
     cases hr : readT r with
     | none => rw [hr] at h; cases h
     | some l2 =>
      rw [hr] at h
      cases h
      have := readT_sum m r l2 (by omega) hr
      simp only [List.map_cons, List.sum_cons]
      omega
theorem readC_w (s : List UInt8) : wC (readC s) ≤ s.length + 8 := by
 unfold readC
 split
 ·rename_i h
  obtain ⟨he, h3⟩ := h
  cases hr : readT s with
  | none => simp [readL, hr] at h3
  | some l =>
   have h1 : readL s = l := by simp [readL, hr]
   have h2 := readT_sum _ s l (Nat.le_refl _) hr
   rw [h1] at h3 ⊢
   match l, h3 with
   | [x, y, z], _ =>
    simp only [List.map_cons, List.map_nil, List.sum_cons, List.sum_nil] at h2
    show 8 + y.length + z.length ≤ _
    omega
 ·split
  ·exact Nat.zero_le _
  ·exact Nat.zero_le _
theorem rep_wt {fs : List Fl} (hf : ∀ f ∈ fs, ∀ t ∈ f.l, t.length ≤ 4096) (s : Nat) (base : List Kv) : ∀ n, wt (rep fs s base n) ≤ wt base + n * 4104
 | 0 => by show wt base ≤ _; omega
 | n + 1 => by
  have h1 := rep_wt hf s base n
  have h2 := wt_chL (rep fs s base n) (readC (getL fs ((s + n : Nat) : Int)).1)
  have h3 := readC_w (getL fs ((s + n : Nat) : Int)).1
  have h4 := getL_text fs ((s + n : Nat) : Int) hf
  show wt (chL _ _) ≤ _
  omega
theorem next_first : ∀ (fs : List Fl), chain fs → (∀ f ∈ fs, f.l.length ≤ 1024) → nextOf fs ≤ firstOf fs + 1024 * fs.length
 | [], _, _ => Nat.zero_le _
 | [f], _, h => by
  have := h f (by simp)
  show f.first + f.l.length ≤ f.first + 1024 * 1
  omega
 | f :: f2 :: r, hc, h => by
  have ih := next_first (f2 :: r) hc.2 (fun x hx => h x (List.mem_cons_of_mem _ hx))
  have h0 := h f (by simp)
  have e : firstOf (f2 :: r) = f.next := hc.1
  have e1 : nextOf (f :: f2 :: r) = nextOf (f2 :: r) := by simp [nextOf]
  have e0 : firstOf (f :: f2 :: r) = f.first := rfl
  have hn : f.next = f.first + f.l.length := rfl
  simp only [List.length_cons] at ih ⊢
  omega
/-! ### Records that are told -/
theorem getL_skip (x : Nat) : ∀ (a r : List Fl), (∀ f ∈ a, f.next ≤ x) → getL (a ++ r) (x : Int) = getL r (x : Int)
 | [], _, _ => rfl
 | f :: a, r, h => by
  have h1 := h f (by simp)
  rw [List.cons_append, getL, if_neg (by omega)]
  exact getL_skip x a r fun f hf => h f (by simp [hf])
theorem getL_snoc (x : Nat) (f : Fl) (h : x < f.first) : ∀ (a : List Fl), getL (a ++ [f]) (x : Int) = getL a (x : Int)
 | [] => by
  show (if (f.first : Int) ≤ x ∧ (x : Int) < (f.next : Int) then _ else getL [] (x : Int)) = _
  rw [if_neg (by omega)]
 | y :: a => by
  rw [List.cons_append, getL, getL, getL_snoc x f h a]
theorem sync_fs (g : Lg) : (syncL g).fs = onLast g.fs syncF := rfl
theorem sync_getL (g : Lg) (x : Nat) : getL (syncL g).fs (x : Int) = getL g.fs (x : Int) := by
 rcases last_cases g.fs with e | ⟨a, f, e⟩
 ·rw [sync_fs, e]; rfl
 ·rw [sync_fs, e, onLast_snoc]
  have : ∀ a : List Fl, getL (a ++ [syncF f]) (x : Int) = getL (a ++ [f]) (x : Int) := by
   intro a
   induction a with
   | nil => rfl
   | cons y a ih => simp only [List.cons_append, getL]; rw [ih]
  exact this a
theorem sync_next (g : Lg) : nextOf (syncL g).fs = nextOf g.fs := by
 rcases last_cases g.fs with e | ⟨a, f, e⟩
 ·rw [sync_fs, e]; rfl
 ·rw [sync_fs, e, onLast_snoc, nextOf_snoc, nextOf_snoc]; rfl
theorem first_last (a : List Fl) (f f' : Fl) (h : f.first = f'.first) : firstOf (a ++ [f]) = firstOf (a ++ [f']) := by
 cases a with
 | nil => exact h
 | cons y a => rfl
theorem sync_first (g : Lg) : firstOf (syncL g).fs = firstOf g.fs := by
 rcases last_cases g.fs with e | ⟨a, f, e⟩
 ·rw [sync_fs, e]; rfl
 ·rw [sync_fs, e, onLast_snoc]; exact first_last a _ _ rfl
theorem sync_sure {g : Lg} (h : SureAt g) : (syncL g).sure = nextOf g.fs := by
 simp only [syncL]
 split
 ·rename_i e
  rcases h with ⟨_, h⟩ | ⟨a, f, j, h, _⟩
  ·rw [h, e]; rfl
  ·rw [e] at h; simp at h
 ·rfl
theorem sure_next {g : Lg} (h : SureAt g) : g.sure ≤ nextOf g.fs := by
 rcases h with ⟨_, h⟩ | ⟨a, f, j, h, h1, _, h2⟩
 ·omega
 ·rw [h, nextOf_snoc, h2]; show _ ≤ f.first + f.l.length; omega
theorem app_err {g : Lg} {t : List UInt8} (h : (appL g t).2.2 ≠ 0) : (appL g t).1 = g := by
 unfold appL at h ⊢
 split
 ·rfl
 split
 ·rfl
 split
 ·rename_i h1 h2 h3; rw [if_neg h1, if_neg h2, if_pos h3] at h; exact absurd rfl h
 split
 ·rfl
 ·rename_i h1 h2 h3 h4; rw [if_neg h1, if_neg h2, if_neg h3, if_neg h4] at h; exact absurd rfl h
theorem app_told {g : Lg} {t : List UInt8} (hc : chain g.fs) (hs : SureAt g) (h : (appL g t).2.2 = 0) : nextOf (appL g t).1.fs = nextOf g.fs + 1 ∧ firstOf (appL g t).1.fs = firstOf g.fs ∧ g.sure ≤ (appL g t).1.sure ∧
 (∀ x : Nat, x < nextOf g.fs → getL (appL g t).1.fs (x : Int) = getL g.fs (x : Int)) ∧ (getL (appL g t).1.fs (nextOf g.fs : Int)).1 = t := by
 unfold appL at h ⊢
 split
 ·rename_i h1; rw [if_pos h1] at h; cases h
 split
 ·rename_i h1 h2; rw [if_neg h1, if_pos h2] at h; cases h
 split
 ·rename_i h3
  rcases last_cases g.fs with e | ⟨a, f, e⟩
  ·simp [roomB, e] at h3
  ·have hn : nextOf g.fs = f.first + f.l.length := by rw [e, nextOf_snoc]; rfl
   have hcl := chain_le a f (by rw [← e]; exact hc)
   dsimp only
   rw [hn, e, onLast_snoc, nextOf_snoc]
   refine ⟨by simp only [Fl.next, putF, List.length_append, List.length_singleton]; omega, first_last a _ _ rfl, Nat.le_refl _, ?_, ?_⟩
   ·intro x hx
    refine (getL_last f (putF f t) x rfl f.l.length hx (Nat.le_refl _) (by simp [putF]) ?_ a).symm
    simp [putF]
   ·rw [getL_skip _ a _ (fun y hy => by have := hcl y hy; omega)]
    rw [getL, if_pos (by simp only [Fl.next, putF, List.length_append, List.length_singleton]; omega)]
    rw [show (((f.first + f.l.length : Nat) : Int) - ((putF f t).first : Int)).toNat = f.l.length by simp only [putF]; omega]
    simp [putF]
 ·split
  ·rename_i h1 h2 h3 h4; rw [if_neg h1, if_neg h2, if_neg h3, if_pos h4] at h; cases h
  ·dsimp only
   rw [nextOf_snoc]
   have hnx := next_le (syncL g) (by
    rcases last_cases g.fs with e | ⟨a, f, e⟩
    ·rw [sync_fs, e]; trivial
    ·rw [sync_fs, e, onLast_snoc]; exact chain_last a f _ rfl (by rw [← e]; exact hc))
   rw [sync_next] at hnx
   refine ⟨rfl, ?_, by rw [sync_sure hs]; exact sure_next hs, ?_, ?_⟩
   ·have h5 := sync_first g
    rcases last_cases g.fs with e | ⟨a, f, e⟩
    ·rw [sync_fs, e]; rfl
    ·rw [← h5, sync_fs, e, onLast_snoc]
     cases a <;> rfl
   ·intro x hx
    rw [getL_snoc x _ hx, sync_getL]
   ·rw [getL_skip _ _ _ hnx]
    rw [getL, if_pos (by simp only [Fl.next, List.length_singleton]; omega)]
    simp
theorem rep_same {fs fs' : List Fl} {s : Nat} {base : List Kv} : ∀ {n : Nat}, (∀ x : Nat, s ≤ x → x < s + n → getL fs (x : Int) = getL fs' (x : Int)) → rep fs s base n = rep fs' s base n
 | 0, _ => rfl
 | n + 1, h => by
  show chL (rep fs s base n) _ = chL (rep fs' s base n) _
  rw [rep_same fun x h1 h2 => h x h1 (by omega), h (s + n) (by omega) (by omega)]
end Go.Proofs
