/- Part 40 of the texts below the row: Sha1, Sha2. -/
import Derived.Test.YtdggicfcpcjjlaaGreatDoorM1
import Derived.Test.YtdggicfcpcjjlaaGreatDoorM11
import Derived.Test.YtdggicfcpcjjlaaGreatDoorM13
import Derived.Test.YtdggicfcpcjjlaaGreatDoorM21
/- SHA-256: a block's words. -/
set_option autoImplicit false
namespace Go.Proofs
open Go.SL
def rotl (x : UInt32) (s : Nat) : UInt32 := x <<< UInt32.ofNat s ||| x >>> UInt32.ofNat (32 - s)
def rotr (x : UInt32) (n : Nat) : UInt32 := rotl x (32 - n)
/-- How far it is turned. -/
def Tn (k : Int) (s : Nat) : Prop := ∃ u : Nat, IntKind.u64.wrap k = (u : Int) ∧ u < 18446744073709551616 ∧ u &&& 31 = s
theorem tn_neg : ∀ n : Fin 32, Tn (-(n.val : Int)) ((32 - n.val) % 32) := by
 intro n
 refine ⟨(18446744073709551616 - n.val) % 18446744073709551616, ?_, Nat.mod_lt _ (by decide), ?_⟩
 ·revert n; decide
 ·revert n; decide
def wrdF (b : List UInt8) (t : Nat) (l : List UInt32) : UInt32 :=
 if t < 16 then (b.getD (4 * t) 0).toUInt32 <<< UInt32.ofNat 24 ||| (b.getD (4 * t + 1) 0).toUInt32 <<< UInt32.ofNat 16 ||| (b.getD (4 * t + 2) 0).toUInt32 <<< UInt32.ofNat 8 ||| (b.getD (4 * t + 3) 0).toUInt32
 else l.getD (t - 16) 0 + l.getD (t - 7) 0 + (rotr (l.getD (t - 15) 0) 7 ^^^ rotr (l.getD (t - 15) 0) 18 ^^^ l.getD (t - 15) 0 >>> UInt32.ofNat 3) + (rotr (l.getD (t - 2) 0) 17 ^^^ rotr (l.getD (t - 2) 0) 19 ^^^ l.getD (t - 2) 0 >>> UInt32.ofNat 10)
def wrdL (b : List UInt8) : Nat → List UInt32
 | 0 => []
 | k + 1 => wrdL b k ++ [wrdF b k (wrdL b k)]
theorem wrdL_len (b : List UInt8) : ∀ k, (wrdL b k).length = k
 | 0 => rfl
 | k + 1 => by rw [wrdL, List.length_append, wrdL_len b k]; rfl
def wrdM (b : List UInt8) (k : Nat) : List UInt32 := wrdL b k ++ List.replicate (64 - k) 0
theorem wrdM_len (b : List UInt8) {k : Nat} (h : k ≤ 64) : (wrdM b k).length = 64 := by unfold wrdM; rw [List.length_append, wrdL_len, List.length_replicate]; omega
theorem wrdM_get (b : List UInt8) {k i : Nat} (hi : i < k) : ((wrdM b k).map w32)[i]? = some (w32 ((wrdL b k).getD i 0)) := by
 have hl := wrdL_len b k
 unfold wrdM
 rw [List.getElem?_map, List.getElem?_append_left (by omega), List.getD_eq_getElem?_getD, List.getElem?_eq_getElem (by omega)]
 rfl
theorem wrdM_set (b : List UInt8) {k : Nat} (h : k < 64) : ((wrdM b k).map w32).set k (w32 (wrdF b k (wrdL b k))) = (wrdM b (k + 1)).map w32 := by
 rw [← List.map_set]
 unfold wrdM
 rw [List.set_append_right _ _ (by rw [wrdL_len]; omega), wrdL_len, Nat.sub_self, show 64 - k = (64 - (k + 1)) + 1 by omega, List.replicate_succ, List.set_cons_zero, wrdL, List.append_assoc]
 rfl
theorem getD_ok {α : Type} (l : List α) (i : Nat) (d : α) (h : i < l.length) : l[i] = l.getD i d := by rw [List.getD_eq_getElem?_getD, List.getElem?_eq_getElem h]; rfl
attribute [local irreducible] J JL QOp JOp seqQ blockQ loopQ retQ slc cel hex star pur stars Does RV Ent pAt scopeQ
section
variable (E : World)
theorem rotl_ok (x : UInt32) (k : Int) (s : Nat) (hk : Tn k s) (h1 : 1 ≤ s) (h31 : s ≤ 31) : Does Tryz.prog E 209 [w32 x, .int .i64 k] [] fun r L => r = w32 (rotl x s) ∧ L = [] := by
 obtain ⟨u, e1, e2, e3⟩ := hk
 refine Does.of Tryz.func209 rfl Tryz.ntmps209 rfl rfl fun F => ?_
 refine XaL ?_
 refine Lq (Q_cvt rfl e1) ?_
 refine Lq ((Q_andN (k := .u64) u 31 rfl rfl rfl rfl e2 (by decide)).as (v' := .int .u64 (s : Int)) (by rw [e3])) ?_
 refine XT ?_
 refine Lq (Q_shlW s rfl rfl (by omega)) ?_
 refine Xf ?_
 refine Lq ((Q_sub rfl rfl (IntWalk.u64_in _ (by omega))).as (v' := .int .u64 ((32 - s : Nat) : Int)) (congrArg (Value.int .u64) (by omega))) ?_
 refine Lq (Q_shrW (32 - s) rfl rfl (by omega)) ?_
 refine Lq (Q_orW rfl rfl) ?_
 refine Xq ?_
 exact XdE
theorem right_ok (x : UInt32) (m : Nat) (h1 : 1 ≤ m) (h31 : m ≤ 31) : Does Tryz.prog E 207 [w32 x, .int .i64 (m : Int)] [] fun r L => r = w32 (rotr x m) ∧ L = [] := by
 have ht := tn_neg ⟨m, by omega⟩
 rw [show (32 - (⟨m, by omega⟩ : Fin 32).val) % 32 = 32 - m by dsimp only; omega] at ht
 have h := rotl_ok E x (-(m : Int)) (32 - m) ht (by omega) (by omega)
 refine Does.of Tryz.func207 rfl Tryz.ntmps207 rfl rfl fun F => ?_
 refine Xb ?_
 refine XT ?_
 refine Lq ((Q_neg rfl (IntWalk.i64_in _ (by omega))).as (v' := .int .i64 (-(m : Int))) (congrArg (Value.int .i64) (by omega))) ?_
 refine L_o rfl rfl rfl (O_callP (h) rfl ?_)
 refine Xq ?_
 exact XdE
theorem words_ok (f : Bool) (S : SV) (l : List UInt8) (hl : 64 ≤ l.length) : Does Tryz.prog E 206 [(S.sub tB.sz 0 64).v] [slc tB f S l] fun r L => r = .agg ((wrdL ((l.take 64).drop 0) 64).map w32).toArray ∧ L = [slc tB f S l] := by
 have hbl : ((l.take 64).drop 0).length = 64 := by simp; omega
 have hz : ((List.replicate 64 (0 : UInt32)).map w32).length = 64 := by simp
 generalize hb : (l.take 64).drop 0 = b at *
 refine Does.of Tryz.func206 rfl Tryz.ntmps206 rfl rfl fun F => ?_
 refine Xb ?_
 refine L_o rfl rfl rfl (O_allocL ((List.replicate 64 (0 : UInt32)).map w32) (by kernel_rfl) (fun b2 => ?_))
 refine Xr ?_
 refine Sr ?_
 refine L_o rfl rfl rfl (O_allocL ((List.replicate 64 (0 : UInt32)).map w32) (by kernel_rfl) (fun b3 => ?_))
 refine XQ ?_
 refine Xg ?_
 refine XP ?_
 have h0 : (List.replicate 64 (0 : UInt32)).map w32 = (wrdM b 0).map w32 := rfl
 rw [h0]
 refine J_loop (fun k : Nat => k ≤ 64) (fun k => [(0, (S.sub tB.sz 0 64).v), (2, .pointer (some ⟨b2, 0, none⟩)), (3, .pointer (some ⟨b3, 0, none⟩)), (7, .int .i64 (k : Int))]) (fun k => [cel b3 ((wrdM b k).map w32) 292, cel b2 ((wrdM b 0).map w32) 292, slc tB f S l, F]) (fun k => 64 - k) 0 (Nat.zero_le _) ⟨rfl, rfl, rfl, rfl, trivial⟩ (Ent.refl _) ?_
 intro k hk
 have hml := wrdM_len b hk
 by_cases h : k < 64
 ·have hst := wrdM_set b h
  refine XR ?_
  refine Xbj ?_
  by_cases h16 : k < 16
  ·have hsub : ∀ w, Sat E w [slc tB f S l] → Rd tB w (S.sub tB.sz 0 64) b := fun w hs => by rw [← hb]; exact (hs.rd 0 rfl).sub 0 64 (Nat.zero_le _) hl
   have d0 : 4 * k < b.length := by omega
   have d1 : 4 * k + 1 < b.length := by omega
   have d2 : 4 * k + 2 < b.length := by omega
   have d3 : 4 * k + 3 < b.length := by omega
   have ef : wrdF b k (wrdL b k) = (b[4 * k]).toUInt32 <<< UInt32.ofNat 24 ||| (b[4 * k + 1]).toUInt32 <<< UInt32.ofNat 16 ||| (b[4 * k + 2]).toUInt32 <<< UInt32.ofNat 8 ||| (b[4 * k + 3]).toUInt32 := by
    unfold wrdF; rw [if_pos h16, getD_ok b _ 0 d0, getD_ok b _ 0 d1, getD_ok b _ 0 d2, getD_ok b _ 0 d3]
   refine Xe ?_
   refine XaW ?_
   refine J_condT rfl ?_
   refine J_seq ?_
   refine DH [2] [0,1,2,3,4,5,6,7,8,9,10,11,12,13,14,15,16,17,18,19,20,21,22,23,24,25,26,27,28,29,30,31,32,33,34] (.quiet 0 (.quiet 1 (.quiet 2 (.quiet 3 (.quiet 4 (.quiet 5 (.quiet 6 (.quiet 7 (.quiet 8 (.quiet 9 (.quiet 10 (.quiet 11 (.quiet 12 (.quiet 13 (.quiet 14 (.quiet 15 (.quiet 16 (.quiet 17 (.quiet 18 (.quiet 19 (.quiet 20 (.quiet 21 (.quiet 22 (.quiet 23 (.quiet 24 (.quiet 25 (.quiet 26 (.quiet 27 (.quiet 28 (.quiet 29 (.quiet 30 (.quiet 31 (.quiet 32 (.quiet 33 (.quiet 34 (.loud 35 .done)))))))))))))))))))))))))))))))))))) Tryz.mixed ?_
   refine X4 ?_
   refine X4 ?_
   refine XdM ?_
   refine Sq (Ent.re [2] rfl) rfl (Q_ix (τ := tB) (4 * k) hsub rfl rfl rfl d0 rfl) ?_
   refine Sq (Ent.re [2] rfl) rfl (Q_ldE (τ := tB) (v := w8 b[4 * k]) (4 * k) 0 hsub rfl rfl rfl d0 (by decide) rfl) ?_
   refine Sq (Ent.re [2] rfl) rfl (Q_cvt8W rfl) ?_
   refine Sq (Ent.re [2] rfl) rfl (Q_shlW 24 rfl rfl (by decide)) ?_
   refine X4 ?_
   refine XdM ?_
   refine Sq (Ent.re [2] rfl) rfl ((Q_add rfl rfl (IntWalk.i64_in _ (by omega))).as (v' := .int .i64 ((4 * k + 1 : Nat) : Int)) rfl) ?_
   refine Sq (Ent.re [2] rfl) rfl (Q_ix (τ := tB) (4 * k + 1) hsub rfl rfl rfl d1 rfl) ?_
   refine Sq (Ent.re [2] rfl) rfl (Q_ldE (τ := tB) (v := w8 b[4 * k + 1]) (4 * k + 1) 0 hsub rfl rfl rfl d1 (by decide) rfl) ?_
   refine Sq (Ent.re [2] rfl) rfl (Q_cvt8W rfl) ?_
   refine Sq (Ent.re [2] rfl) rfl (Q_shlW 16 rfl rfl (by decide)) ?_
   refine Sq (Ent.re [2] rfl) rfl (Q_orW rfl rfl) ?_
   refine X4 ?_
   refine XdM ?_
   refine Sq (Ent.re [2] rfl) rfl ((Q_add rfl rfl (IntWalk.i64_in _ (by omega))).as (v' := .int .i64 ((4 * k + 2 : Nat) : Int)) rfl) ?_
   refine Sq (Ent.re [2] rfl) rfl (Q_ix (τ := tB) (4 * k + 2) hsub rfl rfl rfl d2 rfl) ?_
   refine Sq (Ent.re [2] rfl) rfl (Q_ldE (τ := tB) (v := w8 b[4 * k + 2]) (4 * k + 2) 0 hsub rfl rfl rfl d2 (by decide) rfl) ?_
   refine Sq (Ent.re [2] rfl) rfl (Q_cvt8W rfl) ?_
   refine Sq (Ent.re [2] rfl) rfl (Q_shlW 8 rfl rfl (by decide)) ?_
   refine Sq (Ent.re [2] rfl) rfl (Q_orW rfl rfl) ?_
   refine X4 ?_
   refine XdM ?_
   refine Sq (Ent.re [2] rfl) rfl ((Q_add rfl rfl (IntWalk.i64_in _ (by omega))).as (v' := .int .i64 ((4 * k + 3 : Nat) : Int)) rfl) ?_
   refine Sq (Ent.re [2] rfl) rfl (Q_ix (τ := tB) (4 * k + 3) hsub rfl rfl rfl d3 rfl) ?_
   refine Sq (Ent.re [2] rfl) rfl (Q_ldE (τ := tB) (v := w8 b[4 * k + 3]) (4 * k + 3) 0 hsub rfl rfl rfl d3 (by decide) rfl) ?_
   refine Sq (Ent.re [2] rfl) rfl (Q_cvt8W rfl) ?_
   refine Sq (Ent.re [2] rfl) rfl (Q_orW rfl rfl) ?_
   refine Sq (Ent.re [2] rfl) rfl (Q_ia (o' := k) k rfl rfl rfl h (by omega)) ?_
   refine S_s rfl rfl rfl (O_stS 0 rfl rfl rfl rfl rfl (by rw [List.length_map, hml]; exact h) ⟨[], free_no (by kernel_rfl), ?_⟩)
   refine Xbg ?_
   refine Xa8 ?_
   refine Xce ?_
   rw [ef] at hst
   rw [hst]
   refine Xh ?_
   refine XdR ?_
   refine JL_nil ?_
   exact Xfg
  ·have g15 := wrdM_get b (k := k) (i := k - 15) (by omega)
   have g2 := wrdM_get b (k := k) (i := k - 2) (by omega)
   have g16 := wrdM_get b (k := k) (i := k - 16) (by omega)
   have g7 := wrdM_get b (k := k) (i := k - 7) (by omega)
   have ef : wrdF b k (wrdL b k) = (wrdL b k).getD (k - 16) 0 + (wrdL b k).getD (k - 7) 0 + (rotr ((wrdL b k).getD (k - 15) 0) 7 ^^^ rotr ((wrdL b k).getD (k - 15) 0) 18 ^^^ (wrdL b k).getD (k - 15) 0 >>> UInt32.ofNat 3) + (rotr ((wrdL b k).getD (k - 2) 0) 17 ^^^ rotr ((wrdL b k).getD (k - 2) 0) 19 ^^^ (wrdL b k).getD (k - 2) 0 >>> UInt32.ofNat 10) := by
    unfold wrdF; rw [if_neg h16]
   rw [ef] at hst
   generalize (wrdL b k).getD (k - 15) 0 = x at *
   generalize (wrdL b k).getD (k - 2) 0 = y at *
   generalize (wrdL b k).getD (k - 16) 0 = p at *
   generalize (wrdL b k).getD (k - 7) 0 = q at *
   refine Xe ?_
   refine XbY ?_
   refine J_condF rfl ?_
   refine XS ?_
   refine J_seq ?_
   refine DH [0] [0,1,2,3,4,5,6,7,8,9] (.quiet 0 (.quiet 1 (.quiet 2 (.quiet 3 (.quiet 4 (.quiet 5 (.quiet 6 (.quiet 7 (.quiet 8 (.quiet 9 .done)))))))))) Tryz.mixed ?_
   refine XU ?_
   refine Sq (Ent.re [0] rfl) rfl ((Q_sub rfl rfl (IntWalk.i64_in _ (by omega))).as (v' := .int .i64 ((k - 15 : Nat) : Int)) (congrArg (Value.int .i64) (by omega))) ?_
   refine Sq (Ent.re [0] rfl) rfl (Q_ia (o' := k - 15) (k - 15) rfl rfl rfl (by omega) (by omega)) ?_
   refine Sq (Ent.re [0] rfl) rfl (Q_ld 0 rfl rfl rfl g15) ?_
   refine XU ?_
   refine Sq (Ent.re [0] rfl) rfl ((Q_sub rfl rfl (IntWalk.i64_in _ (by omega))).as (v' := .int .i64 ((k - 2 : Nat) : Int)) (congrArg (Value.int .i64) (by omega))) ?_
   refine Sq (Ent.re [0] rfl) rfl (Q_ia (o' := k - 2) (k - 2) rfl rfl rfl (by omega) (by omega)) ?_
   refine Sq (Ent.re [0] rfl) rfl (Q_ld 0 rfl rfl rfl g2) ?_
   refine Sq (Ent.re [0] rfl) rfl (Q_assign rfl) ?_
   refine XdO ?_
   refine DH [0] [0,1,2,3,4,5,6,7,8,9,10,12,14,15,16,17,18,19,21,23,24,25,26,27,28] (.quiet 0 (.quiet 1 (.quiet 2 (.quiet 3 (.quiet 4 (.quiet 5 (.quiet 6 (.quiet 7 (.quiet 8 (.quiet 9 (.quiet 10 (.quiet 12 (.quiet 15 (.quiet 16 (.quiet 19 (.quiet 21 (.quiet 24 (.quiet 25 (.loud 11 (.loud 13 (.quiet 14 (.quiet 17 (.quiet 18 (.loud 20 (.loud 22 (.quiet 23 (.quiet 26 (.quiet 27 (.quiet 28 (.loud 29 .done)))))))))))))))))))))))))))))) Tryz.mixed ?_
   refine XaG ?_
   refine Sq (Ent.re [0] rfl) rfl ((Q_sub rfl rfl (IntWalk.i64_in _ (by omega))).as (v' := .int .i64 ((k - 16 : Nat) : Int)) (congrArg (Value.int .i64) (by omega))) ?_
   refine Sq (Ent.re [0] rfl) rfl (Q_ia (o' := k - 16) (k - 16) rfl rfl rfl (by omega) (by omega)) ?_
   refine Sq (Ent.re [0] rfl) rfl (Q_ld 0 rfl rfl rfl g16) ?_
   refine XU ?_
   refine Sq (Ent.re [0] rfl) rfl ((Q_sub rfl rfl (IntWalk.i64_in _ (by omega))).as (v' := .int .i64 ((k - 7 : Nat) : Int)) (congrArg (Value.int .i64) (by omega))) ?_
   refine Sq (Ent.re [0] rfl) rfl (Q_ia (o' := k - 7) (k - 7) rfl rfl rfl (by omega) (by omega)) ?_
   refine Sq (Ent.re [0] rfl) rfl (Q_ld 0 rfl rfl rfl g7) ?_
   refine XbC ?_
   refine XaG ?_
   refine XU ?_
   refine Sq (Ent.re [0] rfl) rfl (Q_shrW 3 rfl rfl (by decide)) ?_
   refine XaG ?_
   refine XU ?_
   refine Sq (Ent.re [0] rfl) rfl (Q_shrW 10 rfl rfl (by decide)) ?_
   refine S_o rfl rfl rfl rfl (O_callP (right_ok E x 7 (by decide) (by decide)) rfl ⟨_, fun _ => ⟨Ent.reN [0] rfl, Ent.refl _⟩, ?_⟩)
   refine Xa ?_
   refine S_o rfl rfl rfl rfl (O_callP (right_ok E x 18 (by decide) (by decide)) rfl ⟨_, fun _ => ⟨Ent.reN [0] rfl, Ent.refl _⟩, ?_⟩)
   refine Xa ?_
   refine Xbp ?_
   refine Xbp ?_
   refine XbC ?_
   refine S_o rfl rfl rfl rfl (O_callP (right_ok E y 17 (by decide) (by decide)) rfl ⟨_, fun _ => ⟨Ent.reN [0] rfl, Ent.refl _⟩, ?_⟩)
   refine Xa ?_
   refine S_o rfl rfl rfl rfl (O_callP (right_ok E y 19 (by decide) (by decide)) rfl ⟨_, fun _ => ⟨Ent.reN [0] rfl, Ent.refl _⟩, ?_⟩)
   refine Xa ?_
   refine Xbp ?_
   refine Xbp ?_
   refine XbC ?_
   refine Sq (Ent.re [0] rfl) rfl (Q_ia (o' := k) k rfl rfl rfl h (by omega)) ?_
   refine S_s rfl rfl rfl (O_stS 0 rfl rfl rfl rfl rfl (by rw [List.length_map, hml]; exact h) ⟨[], free_no (by kernel_rfl), ?_⟩)
   refine Xaq ?_
   refine XV ?_
   rw [hst]
   refine Xh ?_
   refine XdR ?_
   refine JL_nil ?_
   exact Xfg
 ·obtain rfl : k = 64 := by omega
  have hw : wrdM b 64 = wrdL b 64 := by unfold wrdM; simp
  rw [hw] at hml ⊢
  have hl2 : ((wrdL b 64).map w32).length = 64 := by rw [List.length_map, hml]
  refine Xbk ?_
  refine Lq (Q_ldS (sz := 64) (vs := (wrdL b 64).map w32) 0 rfl rfl rfl (take_all hl2) hl2) ?_
  refine L_s rfl rfl (O_stV (o := 0) (sz := 64) 1 rfl rfl rfl hl2 (by intro v hv; obtain ⟨x, _, rfl⟩ := List.mem_map.1 hv; rfl) (by rw [← h0, hz]; exact Nat.le_refl _) ?_)
  refine Xr ?_
  refine J_ret ?_
  rw [whole_put (a := (wrdM b 0).map w32) (by rw [← h0, hz])]
  exact retQ_ret _ [slc tB f S l] (.cons (RV_cell 1 rfl rfl rfl hl2) .nil) ⟨rfl, rfl⟩ (Ent.re [2,3] rfl)
end
end Go.Proofs
/- SHA-256: a block. -/
set_option autoImplicit false
namespace Go.Proofs
open Go.SL
def shaF : List UInt32 := [1779033703,3144134277,1013904242,2773480762,1359893119,2600822924,528734635,1541459225]
def shaK : List UInt32 := [1116352408,1899447441,3049323471,3921009573,961987163,1508970993,2453635748,2870763221,3624381080,310598401,607225278,1426881987,1925078388,2162078206,2614888103,3248222580,3835390401,4022224774,264347078,604807628,770255983,1249150122,1555081692,1996064986,2554220882,2821834349,2952996808,3210313671,3336571891,3584528711,113926993,338241895,666307205,773529912,1294757372,1396182291,1695183700,1986661051,2177026350,2456956037,2730485921,2820302411,3259730800,3345764771,3516065817,3600352804,4094571909,275423344,430227734,506948616,659060556,883997877,958139571,1322822218,1537002063,1747873779,1955562222,2024104815,2227730452,2361852424,2428436474,2756734187,3204031479,3329325298]
/-- What the program's own text laid. -/
class LaidE (E : World) : Prop where
 f : Laid E 0 (shaF.map w32)
 k : Laid E 2 (shaK.map w32)
structure H8 where
 a : UInt32
 b : UInt32
 c : UInt32
 d : UInt32
 e : UInt32
 f : UInt32
 g : UInt32
 h : UInt32
abbrev H8.l (r : H8) : List UInt32 := [r.a, r.b, r.c, r.d, r.e, r.f, r.g, r.h]
def rndO (k w : UInt32) (r : H8) : UInt32 := r.h + (rotr r.e 6 ^^^ rotr r.e 11 ^^^ rotr r.e 25) + (r.g ^^^ (r.e &&& (r.f ^^^ r.g))) + k + w
def rndT (r : H8) : UInt32 := rotr r.a 2 ^^^ rotr r.a 13 ^^^ rotr r.a 22
def rndU (r : H8) : UInt32 := rndT r + (r.a &&& r.b ||| r.c &&& (r.a ||| r.b))
def rnd (k w : UInt32) (r : H8) : H8 := ⟨rndO k w r + rndU r, r.a, r.b, r.c, r.d + rndO k w r, r.e, r.f, r.g⟩
def rnds (ws : List UInt32) (r : H8) : Nat → H8
 | 0 => r
 | i + 1 => rnd (shaK.getD i 0) (ws.getD i 0) (rnds ws r i)
def updI (hs rs : List UInt32) (i : Nat) : List UInt32 := (List.zipWith (· + ·) hs rs).take i ++ hs.drop i
theorem updI_0 (hs rs : List UInt32) : updI hs rs 0 = hs := by simp [updI]
theorem updI_8 (hs rs : List UInt32) (h1 : hs.length = 8) (h2 : rs.length = 8) : updI hs rs 8 = List.zipWith (· + ·) hs rs := by
 unfold updI
 rw [List.take_of_length_le (by simp; omega), List.drop_of_length_le (by omega), List.append_nil]
theorem updI_len (hs rs : List UInt32) {i : Nat} (h1 : hs.length = 8) (h2 : rs.length = 8) (hi : i ≤ 8) : (updI hs rs i).length = 8 := by simp [updI]; omega
theorem updI_get (hs rs : List UInt32) {i : Nat} (h1 : hs.length = 8) (h2 : rs.length = 8) (hi : i < 8) : (updI hs rs i)[i]? = some (hs.getD i 0) := by
 unfold updI
 rw [List.getElem?_append_right (by simp; omega), List.length_take, List.length_zipWith, h1, h2, Nat.min_self, Nat.min_eq_left (by omega), Nat.sub_self, List.getElem?_drop, Nat.add_zero, List.getD_eq_getElem?_getD, List.getElem?_eq_getElem (by omega)]
 rfl
theorem updI_set (hs rs : List UInt32) {i : Nat} (h1 : hs.length = 8) (h2 : rs.length = 8) (hi : i < 8) : (updI hs rs i).set i (hs.getD i 0 + rs.getD i 0) = updI hs rs (i + 1) := by
 unfold updI
 have hz : (List.zipWith (· + ·) hs rs).length = 8 := by simp; omega
 rw [List.set_append_right _ _ (by simp; omega), List.length_take, hz, Nat.min_eq_left (by omega), Nat.sub_self, List.drop_eq_getElem_cons (by omega), List.set_cons_zero, List.take_succ_eq_append_getElem (by omega), List.append_assoc, List.getElem_zipWith, getD_ok hs i 0 (by omega), getD_ok rs i 0 (by omega)]
 rfl
/-- What a block makes of a sum. -/
def blkS (hs : List UInt32) (b : List UInt8) : List UInt32 := List.zipWith (· + ·) hs (rnds (wrdL b 64) ⟨hs.getD 0 0, hs.getD 1 0, hs.getD 2 0, hs.getD 3 0, hs.getD 4 0, hs.getD 5 0, hs.getD 6 0, hs.getD 7 0⟩ 64).l
theorem blkS_len (hs : List UInt32) (b : List UInt8) (h : hs.length = 8) : (blkS hs b).length = 8 := by simp [blkS, h]
/-- A sum that goes on. -/
abbrev stL (hs : List UInt32) (S : SV) (n : Nat) : List Value := hs.map w32 ++ [S.v, .int .u64 (n : Int)]
theorem eight {hs : List UInt32} (h : hs.length = 8) : hs = [hs.getD 0 0, hs.getD 1 0, hs.getD 2 0, hs.getD 3 0, hs.getD 4 0, hs.getD 5 0, hs.getD 6 0, hs.getD 7 0] := by
 match hs, h with
 | [a, b, c, d, e, f, g, i], _ => rfl
theorem K_get {i : Nat} (h : i < 64) : ((shaK.map w32).toArray)[i * 1]? = some (w32 (shaK.getD i 0)) := by
 have hl : shaK.length = 64 := rfl
 rw [Nat.mul_one, List.getElem?_toArray, List.getElem?_map, List.getD_eq_getElem?_getD, List.getElem?_eq_getElem (by omega)]
 rfl
theorem map_get {l : List UInt32} {i : Nat} (h : i < l.length) : (l.map w32)[i]? = some (w32 (l.getD i 0)) := by
 rw [List.getElem?_map, List.getD_eq_getElem?_getD, List.getElem?_eq_getElem h]; rfl
instance : Places Tryz.prog 203 [(0, 1), (1, 1), (2, 1), (3, 1), (4, 1), (5, 1), (6, 1), (7, 1)] [.int .u32 0, .int .u32 0, .int .u32 0, .int .u32 0, .int .u32 0, .int .u32 0, .int .u32 0, .int .u32 0] := Places.arrN (k := .u32) rfl rfl rfl
attribute [local irreducible] J JL QOp JOp seqQ blockQ loopQ retQ slc cel hex star pur stars Does RV Ent pAt scopeQ
theorem block_ok (E : World) [hE : LaidE E] (p : Nat) (hs : List UInt32) (h8 : hs.length = 8) (Sw : SV) (n : Nat) (f : Bool) (S : SV) (l : List UInt8) (hl : 64 ≤ l.length) : Does Tryz.prog E 196 [.pointer (some ⟨p, 0, none⟩), (S.sub tB.sz 0 64).v] [cel p (stL hs Sw n) 205, slc tB f S l] fun _ L => L = [cel p (stL (blkS hs ((l.take 64).drop 0)) Sw n) 205, slc tB f S l] := by
 have hw := words_ok E f S l hl
 have hwl : (wrdL ((l.take 64).drop 0) 64).length = 64 := wrdL_len _ 64
 unfold blkS
 generalize wrdL ((l.take 64).drop 0) 64 = ws at *
 have hl2 : (ws.map w32).length = 64 := by rw [List.length_map, hwl]
 have he8 := eight h8
 generalize hs.getD 0 0 = x0 at *
 generalize hs.getD 1 0 = x1 at *
 generalize hs.getD 2 0 = x2 at *
 generalize hs.getD 3 0 = x3 at *
 generalize hs.getD 4 0 = x4 at *
 generalize hs.getD 5 0 = x5 at *
 generalize hs.getD 6 0 = x6 at *
 generalize hs.getD 7 0 = x7 at *
 subst he8
 refine Does.of Tryz.func196 rfl Tryz.ntmps196 rfl rfl fun F => ?_
 refine J.norm ?_
 refine Xg ?_
 refine L_o rfl rfl rfl (O_call [1] [0,2] hw rfl rfl ?_)
 rintro _ _ ⟨rfl, rfl⟩
 refine Xc ?_
 refine L_o rfl rfl rfl (O_allocL ((List.replicate 64 (0 : UInt32)).map w32) (by kernel_rfl) (fun b4 => ?_))
 refine Xc ?_
 refine L_s rfl rfl (O_stV (o := 0) (sz := 64) 0 rfl rfl rfl hl2 (by intro v hv; obtain ⟨x, _, rfl⟩ := List.mem_map.1 hv; rfl) (by simp) ?_)
 refine XQ ?_
 rw [whole_put (a := (List.replicate 64 (0 : UInt32)).map w32) (by simp)]
 refine DH [2] [0,1,2,3,4,5,6,7,8,9,10,11,12,13,14,15,16,17,18,19,20,21,22,23,24,25,26,27,28,29,30,31,32,33,34,35,36,37,38,39,40,41,42,43,44,45,46,47] (.quiet 0 (.quiet 1 (.quiet 2 (.quiet 3 (.quiet 4 (.quiet 5 (.quiet 6 (.quiet 7 (.quiet 8 (.quiet 9 (.quiet 10 (.quiet 11 (.quiet 12 (.quiet 13 (.quiet 14 (.quiet 15 (.quiet 16 (.quiet 17 (.quiet 18 (.quiet 19 (.quiet 20 (.quiet 21 (.quiet 22 (.quiet 23 (.quiet 24 (.quiet 25 (.quiet 26 (.quiet 27 (.quiet 28 (.quiet 29 (.quiet 30 (.quiet 31 (.quiet 32 (.quiet 33 (.quiet 34 (.quiet 35 (.quiet 36 (.quiet 37 (.quiet 38 (.quiet 39 (.quiet 40 (.quiet 41 (.quiet 42 (.quiet 43 (.quiet 44 (.quiet 45 (.quiet 46 (.quiet 47 .done)))))))))))))))))))))))))))))))))))))))))))))))) Tryz.mixed ?_
 refine X4 ?_
 refine XbH ?_
 refine Sq (Ent.re [2] rfl) rfl (Q_ia (o' := 0) 0 rfl rfl rfl (by decide) rfl) ?_
 refine Xbs ?_
 refine XbH ?_
 refine Sq (Ent.re [2] rfl) rfl (Q_ia (o' := 1) 1 rfl rfl rfl (by decide) rfl) ?_
 refine Xbs ?_
 refine XbH ?_
 refine Sq (Ent.re [2] rfl) rfl (Q_ia (o' := 2) 2 rfl rfl rfl (by decide) rfl) ?_
 refine Xbs ?_
 refine XbH ?_
 refine Sq (Ent.re [2] rfl) rfl (Q_ia (o' := 3) 3 rfl rfl rfl (by decide) rfl) ?_
 refine Xbs ?_
 refine XbH ?_
 refine Sq (Ent.re [2] rfl) rfl (Q_ia (o' := 4) 4 rfl rfl rfl (by decide) rfl) ?_
 refine Xbs ?_
 refine XbH ?_
 refine Sq (Ent.re [2] rfl) rfl (Q_ia (o' := 5) 5 rfl rfl rfl (by decide) rfl) ?_
 refine Xbs ?_
 refine XbH ?_
 refine Sq (Ent.re [2] rfl) rfl (Q_ia (o' := 6) 6 rfl rfl rfl (by decide) rfl) ?_
 refine Xbs ?_
 refine XbH ?_
 refine Sq (Ent.re [2] rfl) rfl (Q_ia (o' := 7) 7 rfl rfl rfl (by decide) rfl) ?_
 refine Sq (Ent.re [2] rfl) rfl (Q_ld 0 rfl rfl rfl rfl) ?_
 refine Xcs ?_
 refine Xcs ?_
 refine Xcs ?_
 refine Xcs ?_
 refine XaY ?_
 refine Sr ?_
 refine Lq (Q_ldGl hE.k rfl rfl) ?_
 refine XJ ?_
 refine J_loop (fun i : Nat => i ≤ 64) (fun i => [(0, .pointer (some ⟨p, 0, none⟩)), (4, .pointer (some ⟨b4, 0, none⟩)), (5, w32 (rnds ws ⟨x0, x1, x2, x3, x4, x5, x6, x7⟩ i).a), (6, w32 (rnds ws ⟨x0, x1, x2, x3, x4, x5, x6, x7⟩ i).b), (7, w32 (rnds ws ⟨x0, x1, x2, x3, x4, x5, x6, x7⟩ i).c), (8, w32 (rnds ws ⟨x0, x1, x2, x3, x4, x5, x6, x7⟩ i).d), (9, w32 (rnds ws ⟨x0, x1, x2, x3, x4, x5, x6, x7⟩ i).e), (10, w32 (rnds ws ⟨x0, x1, x2, x3, x4, x5, x6, x7⟩ i).f), (11, w32 (rnds ws ⟨x0, x1, x2, x3, x4, x5, x6, x7⟩ i).g), (12, w32 (rnds ws ⟨x0, x1, x2, x3, x4, x5, x6, x7⟩ i).h), (61, .agg (shaK.map w32).toArray), (62, .int .i64 (i : Int))]) (fun _ => [cel b4 (ws.map w32) 292, slc tB f S l, cel p (stL [x0, x1, x2, x3, x4, x5, x6, x7] Sw n) 205, F]) (fun i => 64 - i) 0 (Nat.zero_le _) ⟨rfl, rfl, rfl, rfl, rfl, rfl, rfl, rfl, rfl, rfl, rfl, rfl, trivial⟩ (Ent.refl _) ?_
 intro i hi
 by_cases h : i < 64
 ·have hgw := map_get (l := ws) (i := i) (by omega)
  have er : rnds ws ⟨x0, x1, x2, x3, x4, x5, x6, x7⟩ (i + 1) = rnd (shaK.getD i 0) (ws.getD i 0) (rnds ws ⟨x0, x1, x2, x3, x4, x5, x6, x7⟩ i) := rfl
  generalize hK : shaK.getD i 0 = kk at *
  generalize ws.getD i 0 = ww at *
  generalize rnds ws ⟨x0, x1, x2, x3, x4, x5, x6, x7⟩ i = r at *
  obtain ⟨a, b, c, d, e, f', g, hh⟩ := r
  refine XR ?_
  refine Lq (Q_aiS (v' := w32 kk) i rfl rfl rfl h rfl (by rw [← hK]; exact K_get h)) ?_
  refine XaK ?_
  refine DH [0] [0,1,3,5,6,8,9,10,11,12,13,14,15,16,17,18,19,20,21,22,23,24] (.quiet 0 (.quiet 1 (.quiet 3 (.quiet 6 (.quiet 10 (.quiet 11 (.quiet 12 (.quiet 13 (.quiet 14 (.quiet 15 (.quiet 16 (.quiet 18 (.quiet 20 (.quiet 21 (.quiet 22 (.loud 2 (.loud 4 (.quiet 5 (.loud 7 (.quiet 8 (.quiet 9 (.quiet 17 (.quiet 19 (.quiet 23 (.quiet 24 .done))))))))))))))))))))))))) Tryz.mixed ?_
  refine XaG ?_
  refine XaG ?_
  refine XaG ?_
  refine XaG ?_
  refine Xbp ?_
  refine Sq (Ent.re [0] rfl) rfl (Q_andW rfl rfl) ?_
  refine Xbp ?_
  refine XaG ?_
  refine Sq (Ent.re [0] rfl) rfl (Q_ia (o' := i) i rfl rfl rfl h (by omega)) ?_
  refine Sq (Ent.re [0] rfl) rfl (Q_ld 0 rfl rfl rfl hgw) ?_
  refine S_o rfl rfl rfl rfl (O_callP (right_ok E e 6 (by decide) (by decide)) rfl ⟨_, fun _ => ⟨Ent.reN [0] rfl, Ent.refl _⟩, ?_⟩)
  refine Xa ?_
  refine S_o rfl rfl rfl rfl (O_callP (right_ok E e 11 (by decide) (by decide)) rfl ⟨_, fun _ => ⟨Ent.reN [0] rfl, Ent.refl _⟩, ?_⟩)
  refine Xa ?_
  refine Xbp ?_
  refine S_o rfl rfl rfl rfl (O_callP (right_ok E e 25 (by decide) (by decide)) rfl ⟨_, fun _ => ⟨Ent.reN [0] rfl, Ent.refl _⟩, ?_⟩)
  refine Xa ?_
  refine Xbp ?_
  refine XbC ?_
  refine XbC ?_
  refine XbC ?_
  refine XbC ?_
  refine XdO ?_
  refine Xg ?_
  refine L_o rfl rfl rfl (O_callP (right_ok E a 2 (by decide) (by decide)) rfl ?_)
  refine Xd ?_
  refine L_o rfl rfl rfl (O_callP (right_ok E a 13 (by decide) (by decide)) rfl ?_)
  refine Lq (Q_xorW rfl rfl) ?_
  refine Xd ?_
  refine L_o rfl rfl rfl (O_callP (right_ok E a 22 (by decide) (by decide)) rfl ?_)
  refine Lq (Q_xorW rfl rfl) ?_
  refine Xf ?_
  refine Lq (Q_andW rfl rfl) ?_
  refine X7 ?_
  refine Lq (Q_orW rfl rfl) ?_
  refine Lq (Q_andW rfl rfl) ?_
  refine Lq (Q_orW rfl rfl) ?_
  refine Lq (Q_addW rfl rfl) ?_
  refine Xbl ?_
  refine Lq (Q_addW rfl rfl) ?_
  refine Xf ?_
  refine X7 ?_
  refine Lq (Q_addW rfl rfl) ?_
  refine X7 ?_
  refine XaN ?_
  refine XaN ?_
  refine XaN ?_
  refine XaN ?_
  refine XaN ?_
  refine XaN ?_
  refine XaN ?_
  refine Xj ?_
  refine XaS ?_
  refine loopQ_normal (i + 1) (by omega) (by omega) ?_ (Ent.refl _)
  rw [er]
  exact ⟨rfl, rfl, rfl, rfl, rfl, rfl, rfl, rfl, rfl, rfl, rfl, rfl, trivial⟩
 ·obtain rfl : i = 64 := by omega
  generalize rnds ws ⟨x0, x1, x2, x3, x4, x5, x6, x7⟩ 64 = r at *
  refine Xbb ?_
  refine J_seq ?_
  have hr8 : r.l.length = 8 := rfl
  refine Xl ?_
  refine Xf ?_
  refine Xf ?_
  refine Xf ?_
  refine Xk ?_
  refine XJ ?_
  have h0 := updI_0 [x0, x1, x2, x3, x4, x5, x6, x7] r.l
  have hL : cel p (stL [x0, x1, x2, x3, x4, x5, x6, x7] Sw n) 205 = cel p (stL (updI [x0, x1, x2, x3, x4, x5, x6, x7] r.l 0) Sw n) 205 := by rw [h0]
  rw [hL]
  refine J_loop (fun i : Nat => i ≤ 8) (fun i => [(0, .pointer (some ⟨p, 0, none⟩)), (129, .agg (r.l.map w32).toArray), (130, .int .i64 (i : Int))]) (fun i => [cel b4 (ws.map w32) 292, slc tB f S l, cel p (stL (updI [x0, x1, x2, x3, x4, x5, x6, x7] r.l i) Sw n) 205, F]) (fun i => 8 - i) 0 (Nat.zero_le _) ⟨rfl, rfl, rfl, trivial⟩ (Ent.refl _) ?_
  intro i hi
  have hul := updI_len [x0, x1, x2, x3, x4, x5, x6, x7] r.l h8 hr8 hi
  by_cases h : i < 8
  ·have hg := updI_get [x0, x1, x2, x3, x4, x5, x6, x7] r.l h8 hr8 h
   have hs := updI_set [x0, x1, x2, x3, x4, x5, x6, x7] r.l h8 hr8 h
   have hrg := map_get (l := r.l) (i := i) (by rw [hr8]; exact h)
   generalize ([x0, x1, x2, x3, x4, x5, x6, x7].getD i 0 : UInt32) = u at *
   generalize r.l.getD i 0 = v at *
   have hg2 : (stL (updI [x0, x1, x2, x3, x4, x5, x6, x7] r.l i) Sw n)[i]? = some (w32 u) := by
    rw [List.getElem?_append_left (by rw [List.length_map, hul]; exact h), List.getElem?_map, hg]; rfl
   have hs2 : (stL (updI [x0, x1, x2, x3, x4, x5, x6, x7] r.l i) Sw n).set i (w32 (u + v)) = stL (updI [x0, x1, x2, x3, x4, x5, x6, x7] r.l (i + 1)) Sw n := by
    unfold stL
    rw [List.set_append_left _ _ (by rw [List.length_map, hul]; exact h), ← List.map_set, hs]
   refine XR ?_
   refine Lq (Q_aiS (v' := w32 v) i rfl rfl rfl h rfl (by rw [Nat.mul_one, List.getElem?_toArray]; exact hrg)) ?_
   refine Xs ?_
   refine DH [2] [0,1,2,3,4,5,6,7,8,9,10] (.quiet 0 (.quiet 1 (.quiet 2 (.quiet 3 (.quiet 4 (.quiet 5 (.quiet 6 (.quiet 7 (.quiet 8 (.quiet 9 (.quiet 10 (.loud 11 .done)))))))))))) Tryz.mixed ?_
   refine X4 ?_
   refine X4 ?_
   refine XbH ?_
   refine Sq (Ent.re [2] rfl) rfl (Q_ia (o' := i) i rfl rfl rfl h (by omega)) ?_
   refine Sq (Ent.re [2] rfl) rfl (Q_ld 0 rfl rfl rfl hg2) ?_
   refine X4 ?_
   refine Sq (Ent.re [2] rfl) rfl (Q_addW rfl rfl) ?_
   refine XbH ?_
   refine Sq (Ent.re [2] rfl) rfl (Q_ia (o' := i) i rfl rfl rfl h (by omega)) ?_
   refine S_s rfl rfl rfl (O_stS 2 rfl rfl rfl rfl rfl (by rw [List.length_append, List.length_map, hul]; show i < 8 + 2; omega) ⟨[], free_no (by kernel_rfl), ?_⟩)
   refine Xaq ?_
   refine XV ?_
   rw [hs2]
   refine Xh ?_
   exact XeJ
  ·obtain rfl : i = 8 := by omega
   rw [updI_8 _ _ h8 hr8]
   refine Xdl ?_
   refine XbA ?_
   exact retQ_normal _ [_, _] .nil rfl (Ent.re [2,1,3] rfl)
end Go.Proofs
