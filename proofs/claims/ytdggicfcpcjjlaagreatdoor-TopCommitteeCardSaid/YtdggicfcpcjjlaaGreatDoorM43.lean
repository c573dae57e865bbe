/- Part 43 of the texts below the row: Cha4, Aea1, Aea2, Hm2. -/
import Derived.Test.YtdggicfcpcjjlaaGreatDoorM1
import Derived.Test.YtdggicfcpcjjlaaGreatDoorM13
import Derived.Test.YtdggicfcpcjjlaaGreatDoorM39
import Derived.Test.YtdggicfcpcjjlaaGreatDoorM41
import Derived.Test.YtdggicfcpcjjlaaGreatDoorM42
/- ChaCha20: a text under the stream. -/
set_option autoImplicit false
namespace Go.Proofs
open Go.SL
def xrS (ks : Nat → UInt8) (l : List UInt8) : List UInt8 := l.mapIdx fun j x => x ^^^ ks j
theorem xrS_len (ks : Nat → UInt8) (l : List UInt8) : (xrS ks l).length = l.length := by simp [xrS]
theorem xrS_xrS (ks : Nat → UInt8) (l : List UInt8) : xrS ks (xrS ks l) = l := by
 refine List.ext_getElem (by rw [xrS_len, xrS_len]) fun i h1 h2 => ?_
 simp [xrS, UInt8.xor_assoc]
def xrI (ks : Nat → UInt8) (l : List UInt8) (i : Nat) : List UInt8 := (xrS ks l).take i ++ l.drop i
theorem xrI_0 (ks : Nat → UInt8) (l : List UInt8) : xrI ks l 0 = l := by simp [xrI]
theorem xrI_all (ks : Nat → UInt8) (l : List UInt8) : xrI ks l l.length = xrS ks l := by unfold xrI; rw [← xrS_len ks l, List.take_length, xrS_len, List.drop_length, List.append_nil]
theorem xrI_len (ks : Nat → UInt8) (l : List UInt8) (i : Nat) : (xrI ks l i).length = l.length := by unfold xrI; simp [xrS_len]; omega
theorem xrI_get (ks : Nat → UInt8) (l X : List UInt8) {i : Nat} (h : i < l.length) (hX : xrI ks l i = X) (h' : i < X.length) : X[i] = l[i] := by
 have : X[i]? = some l[i] := by
  rw [← hX, xrI, List.getElem?_append_right (by rw [List.length_take, xrS_len]; omega), List.length_take, xrS_len, Nat.min_eq_left (Nat.le_of_lt h), Nat.sub_self, List.getElem?_drop, Nat.add_zero, List.getElem?_eq_getElem h]
 rw [List.getElem?_eq_getElem h'] at this
 exact Option.some.inj this
theorem xrI_set (ks : Nat → UInt8) (l : List UInt8) {i : Nat} (h : i < l.length) : (xrI ks l i).set i (l[i] ^^^ ks i) = xrI ks l (i + 1) := by
 have h1 := xrS_len ks l
 have hl : ((xrS ks l).take i).length = i := by rw [List.length_take, h1]; omega
 have e : (xrS ks l)[i]'(by omega) = l[i] ^^^ ks i := by simp [xrS]
 unfold xrI
 rw [List.set_append_right _ _ (by omega), hl, Nat.sub_self, List.drop_eq_getElem_cons h, List.set_cons_zero, List.take_succ_eq_append_getElem (i := i) (l := xrS ks l) (by omega), e, List.append_assoc]
 rfl
def chXn (l : List UInt32) : Nat → List UInt32
 | 0 => l
 | k + 1 => chX (chXn l k)
theorem chXn_len (l : List UInt32) : ∀ k, (chXn l k).length = l.length
 | 0 => rfl
 | k + 1 => by rw [chXn, chX, List.length_set, chXn_len l k]
/-- The stream. -/
def chK (key nonce : List UInt8) (c : UInt32) (j : Nat) : UInt8 := (chB (chXn (chN key nonce c) (j / 64))).getD (j % 64) 0
theorem map_get8 {l : List UInt8} {i : Nat} (h : i < l.length) : (clB l).toArray[i * 1]? = some (w8 (l.getD i 0)) := by
 rw [Nat.mul_one, List.getElem?_toArray]
 unfold clB
 rw [List.getElem?_map, List.getD_eq_getElem?_getD, List.getElem?_eq_getElem h]; rfl
attribute [local irreducible] J JL QOp JOp seqQ blockQ loopQ retQ slc cel hex star pur stars Does RV Ent pAt scopeQ
theorem xor_ok (E : World) (key nonce : List UInt8) (c : UInt32) (hk : key.length = 32) (hn : nonce.length = 12) (l : List UInt8) (hl : l.length ≤ 1000000000) : Does Tryz.prog E 136 [str key, str nonce, w32 c, str l] [] fun v L => v = .tuple #[str (xrS (chK key nonce c) l), .int .i64 0] ∧ L = [] := by
 refine Does.of Tryz.func136 rfl Tryz.ntmps136 rfl rfl fun F => ?_
 refine J.norm ?_
 have hz := chN_len key nonce c
 have hn := chnew_ok E key nonce c hk hn
 have hks : ∀ j, chK key nonce c j = (chB (chXn (chN key nonce c) (j / 64))).getD (j % 64) 0 := fun _ => rfl
 generalize chK key nonce c = ks at *
 generalize chN key nonce c = z at *
 have hl2 : (z.map w32).length = 16 := by rw [List.length_map, hz]
 refine Sr ?_
 refine Xam ?_
 refine Xf ?_
 refine L_o rfl rfl rfl (O_callP (hn) rfl ?_)
 refine XK ?_
 refine L_o rfl rfl rfl (O_allocL ((List.replicate 16 (0 : UInt32)).map w32) (by kernel_rfl) (fun b10 => ?_))
 refine Xc ?_
 refine L_s rfl rfl (O_stV (o := 0) (sz := 16) 0 rfl rfl rfl hl2 (one32 z) (by simp) ?_)
 refine XaJ ?_
 refine J_seq ?_
 rw [whole_put (a := (List.replicate 16 (0 : UInt32)).map w32) (by simp)]
 refine Xe ?_
 refine XbP ?_
 refine Xag ?_
 refine L_o rfl rfl rfl (O_s2b tB_enc rfl rfl (by omega) (fun S => ?_))
 refine XaJ ?_
 refine Xa4 ?_
 have h0 := xrI_0 ks l
 refine J_loop (fun k : Nat => k ≤ (l.length + 63) / 64) (fun k => [(10, .pointer (some ⟨b10, 0, none⟩)), (12, S.v), (13, .int .i64 ((64 * k : Nat) : Int))]) (fun k => [slc tB true S (xrI ks l (min (64 * k) l.length)), cel b10 ((chXn z k).map w32) 261, F]) (fun k => (l.length + 63) / 64 - k) 0 (Nat.zero_le _) ⟨rfl, rfl, rfl, trivial⟩ (by rw [Nat.mul_zero, Nat.zero_min, h0]; exact Ent.refl _) ?_
 intro k hk'
 have hxl := xrI_len ks l (min (64 * k) l.length)
 by_cases h : 64 * k < l.length
 ·have hA := (chXn_len z k).trans hz
  have hA2 : ((chXn z k).map w32).length = 16 := by rw [List.length_map, hA]
  have hB := chB_len (chXn z k)
  have hb := chbytes_ok E (chXn z k) hA
  have hx := chnext_ok E (chXn z k) hA
  have hks' : ∀ j, j < 64 → ks (64 * k + j) = (chB (chXn z k)).getD j 0 := fun j hj => by
   rw [hks, show (64 * k + j) / 64 = k by omega, show (64 * k + j) % 64 = j by omega]
  have eS : chXn z (k + 1) = chX (chXn z k) := rfl
  refine Xad ?_
  refine XO ?_
  refine Lq ((Q_lss rfl rfl).as (v' := .bool true) (congrArg Value.bool (decide_eq_true ((by show ((64 * k : Nat) : Int) < ((xrI ks l (min (64 * k) l.length)).length : Nat); rw [hxl]; omega))))) ?_
  refine Ln ?_
  refine Xac ?_
  refine J_seq ?_
  refine Sr ?_
  refine Lq (Q_ldS (sz := 16) (vs := (chXn z k).map w32) 1 rfl rfl rfl (take_all hA2) hA2) ?_
  refine L_o rfl rfl rfl (O_callP (hb) rfl ?_)
  refine XJ ?_
  have hA3 : ((chX (chXn z k)).map w32).length = 16 := by rw [List.length_map, ← eS, chXn_len, hz]
  generalize hBg : chB (chXn z k) = B at *
  refine J_loop (fun j : Nat => j ≤ 64) (fun j => [(10, .pointer (some ⟨b10, 0, none⟩)), (12, S.v), (13, .int .i64 ((64 * k : Nat) : Int)), (35, .agg (clB B).toArray), (36, .int .i64 (j : Int))]) (fun j => [slc tB true S (xrI ks l (min (64 * k + j) l.length)), cel b10 ((chXn z k).map w32) 261, F]) (fun j => 64 - j) 0 (Nat.zero_le _) ⟨rfl, rfl, rfl, rfl, rfl, trivial⟩ (Ent.refl _) ?_
  intro j hj
  clear hxl
  have hxl := xrI_len ks l (min (64 * k + j) l.length)
  by_cases hj2 : j < 64
  ·have hg := map_get8 (l := B) (i := j) (by omega)
   have hkj := hks' j hj2
   generalize B.getD j 0 = u at *
   refine XR ?_
   refine Lq (Q_aiS (v' := w8 u) j rfl rfl rfl hj2 rfl hg) ?_
   refine XaK ?_
   by_cases hin : 64 * k + j < l.length
   ·have hmin : min (64 * k + j) l.length = 64 * k + j := Nat.min_eq_left (Nat.le_of_lt hin)
    have hmin1 : min (64 * k + (j + 1)) l.length = 64 * k + j + 1 := Nat.min_eq_left hin
    have hxs := xrI_set ks l hin
    rw [hkj] at hxs
    rw [hmin] at hxl ⊢
    generalize hXi : xrI ks l (64 * k + j) = X at *
    have hxg := xrI_get ks l X hin hXi (by omega)
    refine Xl ?_
    refine XfQ ?_
    refine XO ?_
    refine Lq ((Q_lss rfl rfl).as (v' := .bool true) (congrArg Value.bool (decide_eq_true ((by show ((64 * k + j : Nat) : Int) < (X.length : Nat); omega))))) ?_
    refine Xm ?_
    refine Xl ?_
    refine Xd ?_
    refine Lq ((Q_add rfl rfl (IntWalk.i64_in _ (by omega))).as (v' := .int .i64 ((64 * k + j : Nat) : Int)) rfl) ?_
    refine Lq (Q_ixAt 0 (64 * k + j) rfl rfl rfl rfl (by omega) rfl) ?_
    refine Lq (Q_ldEAt 0 (64 * k + j) 0 (v := w8 (l[64 * k + j])) rfl rfl rfl rfl (by omega) (by decide) (by rw [hxg]; rfl)) ?_
    refine Xd ?_
    refine Lq (Q_xor8 rfl rfl) ?_
    refine Lq (Q_ixAt 0 (64 * k + j) rfl rfl rfl rfl (by omega) rfl) ?_
    refine L_s rfl rfl (O_stE 0 (64 * k + j) 0 (l[64 * k + j] ^^^ u) rfl rfl rfl rfl rfl rfl (tB.one _) (by omega) (Nat.le_refl 1) (by simp [tB, Value.cells]) ?_)
    refine Xas ?_
    rw [hxs]
    refine Xh ?_
    refine XbG ?_
    refine JL_nil ?_
    exact loopQ_normal (j + 1) (by omega) (by omega) ⟨rfl, rfl, rfl, rfl, rfl, trivial⟩ (by rw [hmin1]; exact Ent.refl _)
   ·have hmin : min (64 * k + j) l.length = l.length := Nat.min_eq_right (by omega)
    have hmin1 : min (64 * k + (j + 1)) l.length = l.length := Nat.min_eq_right (by omega)
    rw [hmin] at hxl ⊢
    refine Xl ?_
    refine XfQ ?_
    refine XO ?_
    refine Lq ((Q_lss rfl rfl).as (v' := .bool false) (congrArg Value.bool (decide_eq_false ((by show ¬ ((64 * k + j : Nat) : Int) < ((xrI ks l l.length).length : Nat); omega))))) ?_
    refine XaI ?_
    refine X8 ?_
    refine XbG ?_
    refine JL_nil ?_
    exact loopQ_normal (j + 1) (by omega) (by omega) ⟨rfl, rfl, rfl, rfl, rfl, trivial⟩ (by rw [hmin1]; exact Ent.refl _)
  ·obtain rfl : j = 64 := by omega
   refine Xbb ?_
   refine Xh ?_
   refine Lq (Q_ldS (sz := 16) (vs := (chXn z k).map w32) 1 rfl rfl rfl (take_all hA2) hA2) ?_
   refine L_o rfl rfl rfl (O_callP (hx) rfl ?_)
   refine L_s rfl rfl (O_stV (o := 0) (sz := 16) 1 rfl rfl rfl hA3 (one32 _) (by rw [hA2]; exact Nat.le_refl _) ?_)
   refine Xas ?_
   rw [whole_put hA2]
   refine Xe ?_
   refine Lq ((Q_add rfl rfl (IntWalk.i64_in _ (by omega))).as (v' := .int .i64 ((64 * (k + 1) : Nat) : Int)) (congrArg (Value.int .i64) (by omega))) ?_
   refine Xj ?_
   exact loopQ_normal (k + 1) (by omega) (by omega) ⟨rfl, rfl, rfl, trivial⟩ (Ent.refl _)
 ·have hmin : min (64 * k) l.length = l.length := Nat.min_eq_right (by omega)
  rw [hmin] at hxl ⊢
  rw [xrI_all] at hxl ⊢
  refine Xad ?_
  refine XO ?_
  refine Lq ((Q_lss rfl rfl).as (v' := .bool false) (congrArg Value.bool (decide_eq_false ((by show ¬ ((64 * k : Nat) : Int) < ((xrS ks l).length : Nat); omega))))) ?_
  refine X2 ?_
  refine XaA ?_
  refine Xg ?_
  refine Xa6 ?_
  refine Xs ?_
  exact XdP
end Go.Proofs
/- AEAD: filling, lengths, tags compared. -/
set_option autoImplicit false
namespace Go.Proofs
open Go.SL
theorem neg15 (n : Nat) (h : n ≤ 1000000000000) : IntKind.i64.wrap ((BitVec.ofInt IntKind.i64.bits (0 - (n : Int)) &&& BitVec.ofInt IntKind.i64.bits 15).toNat : Int) = (((16 - n % 16) % 16 : Nat) : Int) := by
 have e1 : (BitVec.ofInt IntKind.i64.bits 15).toNat = 15 := rfl
 rw [BitVec.toNat_and, e1, BitVec.toNat_ofInt]
 have e2 := Nat.and_two_pow_sub_one_eq_mod ((0 - (n : Int)) % ((2 ^ IntKind.i64.bits : Nat) : Int)).toNat 4
 rw [show (2 : Nat) ^ 4 - 1 = 15 from rfl, show (2 : Nat) ^ 4 = 16 from rfl] at e2
 rw [e2]
 have e3 : ((2 ^ IntKind.i64.bits : Nat) : Int) = 18446744073709551616 := rfl
 rw [e3, IntWalk.i64_in _ (by omega)]
 omega
def fillB (n : Nat) : List UInt8 := List.replicate ((16 - n % 16) % 16) 0
def lenB (n : Nat) : Nat → List UInt8
 | 0 => []
 | k + 1 => lenB n k ++ [UInt8.ofNat (n / 2 ^ (8 * k))]
theorem lenB_len (n : Nat) : ∀ k, (lenB n k).length = k
 | 0 => rfl
 | k + 1 => by rw [lenB, List.length_append, lenB_len n k]; rfl
def lenM (n k : Nat) : List UInt8 := lenB n k ++ List.replicate (8 - k) 0
theorem lenM_len (n : Nat) {k : Nat} (h : k ≤ 8) : (lenM n k).length = 8 := by unfold lenM; simp [lenB_len]; omega
theorem lenM_set (n : Nat) {k : Nat} (h : k < 8) : (lenM n k).set k (UInt8.ofNat (n / 2 ^ (8 * k))) = lenM n (k + 1) := by
 unfold lenM
 rw [List.set_append_right _ _ (by rw [lenB_len]; omega), lenB_len, Nat.sub_self, show 8 - k = (8 - (k + 1)) + 1 by omega, List.replicate_succ, List.set_cons_zero, lenB, List.append_assoc]
 rfl
def alk (a b : List UInt8) : Nat → UInt8
 | 0 => 0
 | k + 1 => alk a b k ||| (a.getD k 0 ^^^ b.getD k 0)
theorem or8 (x y : UInt8) : x ||| y = 0 ↔ x = 0 ∧ y = 0 := by
 constructor
 ·intro h
  have h1 : x.toBitVec ||| y.toBitVec = 0#8 := congrArg UInt8.toBitVec h
  have h2 := BitVec.or_eq_zero_iff.1 h1
  exact ⟨UInt8.toBitVec_inj.1 h2.1, UInt8.toBitVec_inj.1 h2.2⟩
 ·rintro ⟨rfl, rfl⟩; rfl
theorem xor8 (x y : UInt8) : x ^^^ y = 0 ↔ x = y := by
 constructor
 ·intro h
  have h1 : x.toBitVec ^^^ y.toBitVec = 0#8 := congrArg UInt8.toBitVec h
  exact UInt8.toBitVec_inj.1 (BitVec.xor_eq_zero_iff.1 h1)
 ·rintro rfl; simp
theorem alk_0 (a b : List UInt8) : ∀ k, alk a b k = 0 ↔ ∀ i, i < k → a.getD i 0 = b.getD i 0
 | 0 => by simp [alk]
 | k + 1 => by
  rw [alk, or8, xor8, alk_0 a b k]
  constructor
  ·rintro ⟨h1, h2⟩ i hi
   by_cases e : i = k
   ·rw [e]; exact h2
   ·exact h1 i (by omega)
  ·intro h; exact ⟨fun i hi => h i (by omega), h k (by omega)⟩
theorem alk_eq {a b : List UInt8} (ha : a.length = 16) (hb : b.length = 16) : ((alk a b 16).toNat : Int) = 0 ↔ a = b := by
 have e : ((alk a b 16).toNat : Int) = 0 ↔ alk a b 16 = 0 := by
  constructor
  ·intro h; exact UInt8.toNat_inj.1 (by simpa using h)
  ·intro h; rw [h]; rfl
 rw [e, alk_0]
 constructor
 ·intro h
  refine List.ext_getElem (by omega) fun i h1 h2 => ?_
  rw [gd8 a i h1, gd8 b i h2]; exact h i (by omega)
 ·rintro rfl i _; rfl
attribute [local irreducible] J JL QOp JOp seqQ blockQ loopQ retQ slc cel hex star pur stars Does RV Ent pAt scopeQ
theorem afill_ok (E : World) (n : Nat) (h : n ≤ 1000000000000) : Does Tryz.prog E 139 [.int .i64 (n : Int)] [] fun v L => v = str (fillB n) ∧ L = [] := by
 refine Does.of Tryz.func139 rfl Tryz.ntmps139 rfl rfl fun F => ?_
 refine J.norm ?_
 unfold fillB
 refine Sr ?_
 refine Xx ?_
 refine Lq (Q_neg rfl (IntWalk.i64_in _ (by omega))) ?_
 refine Lq (Q_and rfl rfl (neg15 n h)) ?_
 refine L_o rfl rfl rfl (O_mk (τ := tB) ((16 - n % 16) % 16) (0 : UInt8) rfl rfl rfl rfl rfl rfl (by omega) (by decide) (fun S => ?_))
 refine Xc ?_
 refine Xa6 ?_
 exact XcL
theorem alength_ok (E : World) (n : Nat) (_ : n ≤ 1000000000000) : Does Tryz.prog E 140 [.int .i64 (n : Int)] [] fun v L => v = str (lenB n 8) ∧ L = [] := by
 refine Does.of Tryz.func140 rfl Tryz.ntmps140 rfl rfl fun F => ?_
 refine Xb ?_
 refine XC ?_
 refine L_o rfl rfl rfl (O_allocL (clB (List.replicate 8 0)) (by kernel_rfl) (fun b3 => ?_))
 refine XQ ?_
 refine Xg ?_
 refine XP ?_
 refine J_loop (fun i : Nat => i ≤ 8) (fun i => [(0, .int .i64 (n : Int)), (2, str []), (3, .pointer (some ⟨b3, 0, none⟩)), (5, .int .i64 (i : Int))]) (fun i => [cel b3 (clB (lenM n i)) 270, F]) (fun i => 8 - i) 0 (Nat.zero_le _) ⟨rfl, rfl, rfl, rfl, trivial⟩ (Ent.refl _) ?_
 intro i hi
 have hl := lenM_len n hi
 by_cases h8 : i < 8
 ·have hst := lenM_set n h8
  refine XR ?_
  refine Xbl ?_
  refine Xd ?_
  refine Lq ((Q_mul rfl rfl (IntWalk.i64_in _ (by omega))).as (v' := .int .i64 ((8 * i : Nat) : Int)) rfl) ?_
  refine Lq (Q_shrZ n (8 * i) rfl rfl rfl rfl (by show 8 * i ≤ 64; omega)) ?_
  refine Lq (Q_cvtN8 rfl) ?_
  refine Lq (Q_ia (o' := i) i rfl rfl rfl (by omega) (by omega)) ?_
  refine L_s rfl rfl (O_stS 0 rfl rfl rfl rfl rfl (by rw [clB_len, hl]; omega) ?_)
  refine Xas ?_
  rw [clB_set, hst]
  refine Xh ?_
  exact Xc9
 ·obtain rfl : i = 8 := by omega
  have e : lenM n 8 = lenB n 8 := by unfold lenM; simp
  rw [e] at hl ⊢
  generalize lenB n 8 = t at *
  refine Xbk ?_
  refine Lq (Q_slA 0 8 0 rfl rfl rfl (by decide) (by decide) rfl) ?_
  refine Lq (Q_b2s (β := tB) (S := ⟨some ⟨b3, 0, none⟩, 8, 8⟩) (m := t) tB_enc (fun w hs => by have := hs.rdC (τ := tB) (m := t) (c := 8) (o := 0) 0 [] rfl (by rw [clB_flat, List.append_nil]; rfl) (by omega); rw [hl] at this; exact this) rfl) ?_
  exact XcL
theorem alike_ok (E : World) (a b : List UInt8) (ha : a.length = 16) (hb : b.length = 16) : Does Tryz.prog E 86 [str a, str b] [] fun v L => v = .bool (decide (a = b)) ∧ L = [] := by
 refine Does.of Tryz.func86 rfl Tryz.ntmps86 rfl rfl fun F => ?_
 refine J.norm ?_
 have he := alk_eq ha hb
 refine Sr ?_
 refine XC ?_
 refine XA ?_
 refine XP ?_
 refine J_loop (fun i : Nat => i ≤ 16) (fun i => [(0, str a), (1, str b), (5, w8 (alk a b i)), (7, .int .i64 (i : Int))]) (fun i => [F]) (fun i => 16 - i) 0 (Nat.zero_le _) ⟨rfl, rfl, rfl, rfl, trivial⟩ (Ent.refl _) ?_
 intro i hi
 by_cases h : i < 16
 ·have e : alk a b (i + 1) = alk a b i ||| (a[i] ^^^ b[i]) := by rw [alk, gd8 a i (by omega), gd8 b i (by omega)]
  refine XR ?_
  refine Xi ?_
  refine DH [] [0,1,2,3,4,5,6,7,8,9] (.quiet 0 (.quiet 1 (.quiet 2 (.quiet 3 (.quiet 4 (.quiet 5 (.quiet 6 (.quiet 7 (.quiet 8 (.quiet 9 .done)))))))))) Tryz.mixed ?_
  refine Xb8 ?_
  refine XbD ?_
  refine Sq (Ent.re [] rfl) rfl (Q_sindex i rfl rfl rfl (by omega)) ?_
  refine Xb8 ?_
  refine Sq (Ent.re [] rfl) rfl (Q_sindex i rfl rfl rfl (by omega)) ?_
  refine Sq (Ent.re [] rfl) rfl (Q_xor8 rfl rfl) ?_
  refine Sq (Ent.re [] rfl) rfl (Q_or8 rfl rfl) ?_
  refine Xck ?_
  refine S_nil ?_
  refine XaS ?_
  exact loopQ_normal (i + 1) (by omega) (by omega) (by rw [e]; exact ⟨rfl, rfl, rfl, rfl, trivial⟩) (Ent.refl _)
 ·obtain rfl : i = 16 := by omega
  refine Xbb ?_
  refine Xg ?_
  refine Lq (Q_eql rfl rfl) ?_
  refine Xq ?_
  exact retQ_ret [_] [] (.cons (RV_tmp rfl) .nil) ⟨congrArg Value.bool (by simp only [he]), rfl⟩ (Ent.refl _)
end Go.Proofs
/- AEAD: sealed, opened. -/
set_option autoImplicit false
namespace Go.Proofs
open Go.SL
/-- What the tag is of. -/
def aeT (x l : List UInt8) : List UInt8 := x ++ fillB x.length ++ l ++ fillB l.length ++ lenB x.length 8 ++ lenB l.length 8
def aeG (key nonce x l : List UInt8) : List UInt8 := pMac ((chB (chN key nonce 0)).take 32) (aeT x l)
theorem aeG_len (key nonce x l : List UInt8) : (aeG key nonce x l).length = 16 := pMac_len _ _
def aeS (key nonce l x : List UInt8) : List UInt8 := xrS (chK key nonce 1) l ++ aeG key nonce x (xrS (chK key nonce 1) l)
theorem aeS_len (key nonce l x : List UInt8) : (aeS key nonce l x).length = l.length + 16 := by unfold aeS; rw [List.length_append, aeG_len, xrS_len]
theorem fillB_len (n : Nat) : (fillB n).length ≤ 15 := by unfold fillB; rw [List.length_replicate]; omega
abbrev lockV (key nonce : List UInt8) : Value := .agg #[str key, str nonce]
attribute [local irreducible] J JL QOp JOp seqQ blockQ loopQ retQ slc cel hex star pur stars Does RV Ent pAt scopeQ
theorem astream_ok (E : World) (key nonce l : List UInt8) (hk : key.length = 32) (hn : nonce.length = 12) (hl : l.length ≤ 1000000000) : Does Tryz.prog E 81 [lockV key nonce, str l] [] fun v L => v = .tuple #[str (xrS (chK key nonce 1) l), .int .i64 0] ∧ L = [] := by
 refine Does.of Tryz.func81 rfl Tryz.ntmps81 rfl rfl fun F => ?_
 refine Xb ?_
 refine L_o rfl rfl rfl (O_box rfl fun b2 => ?_)
 refine Xs ?_
 refine XaT ?_
 refine XaF ?_
 refine Xd ?_
 refine L_o rfl rfl rfl (O_callP (xor_ok E key nonce 1 hk hn l hl) rfl ?_)
 refine Xcm ?_
 refine Xs ?_
 exact Xc7
theorem asum_ok (E : World) (key nonce l x : List UInt8) (hk : key.length = 32) (hn : nonce.length = 12) (hl : l.length ≤ 1000000000) (hx : x.length ≤ 1000000000) : Does Tryz.prog E 82 [lockV key nonce, str l, str x] [] fun v L => v = str (aeG key nonce x l) ∧ L = [] := by
 refine Does.of Tryz.func82 rfl Tryz.ntmps82 rfl rfl fun F => ?_
 refine J.norm ?_
 have hB := chB_len (chN key nonce 0)
 have f1 := fillB_len x.length
 have f2 := fillB_len l.length
 have l1 := lenB_len x.length 8
 have l2 := lenB_len l.length 8
 have hb := chblock_ok E key nonce 0 hk hn
 unfold aeG aeT
 generalize chB (chN key nonce 0) = B at *
 have hm := pmac_ok E (B.take 32) (x ++ fillB x.length ++ l ++ fillB l.length ++ lenB x.length 8 ++ lenB l.length 8) (by rw [List.length_take, hB]; rfl)
 have g1 := afill_ok E x.length (by omega)
 have g2 := afill_ok E l.length (by omega)
 have g3 := alength_ok E x.length (by omega)
 have g4 := alength_ok E l.length (by omega)
 generalize fillB x.length = a at *
 generalize fillB l.length = b at *
 generalize lenB x.length 8 = c at *
 generalize lenB l.length 8 = d at *
 refine Sr ?_
 refine L_o rfl rfl rfl (O_box rfl fun b3 => ?_)
 refine XC ?_
 refine XaF ?_
 refine XaF ?_
 refine L_o rfl rfl rfl (O_callP (hb) rfl ?_)
 refine XK ?_
 refine XaK ?_
 refine DH [] [0,1,2,3,4,6,7,8,9,10,12,13,14,16,17,18,20,22,23,24,25,26] (.quiet 0 (.quiet 1 (.quiet 2 (.quiet 3 (.quiet 4 (.quiet 7 (.quiet 9 (.quiet 10 (.quiet 13 (.quiet 14 (.quiet 17 (.quiet 18 (.loud 5 (.quiet 6 (.quiet 8 (.loud 11 (.quiet 12 (.loud 15 (.quiet 16 (.loud 19 (.quiet 20 (.loud 21 (.quiet 22 (.quiet 23 (.quiet 24 (.quiet 25 (.quiet 26 .done))))))))))))))))))))))))))) Tryz.mixed ?_
 refine XbD ?_
 refine Sq (Ent.re [] rfl) rfl (Q_ssH 32 rfl rfl rfl (by omega)) ?_
 refine Xb8 ?_
 refine Sq (Ent.re [] rfl) rfl (Q_slen rfl) ?_
 refine Xb8 ?_
 refine Sq (Ent.re [] rfl) rfl (Q_slen rfl) ?_
 refine XbD ?_
 refine Sq (Ent.re [] rfl) rfl (Q_slen rfl) ?_
 refine XbD ?_
 refine Sq (Ent.re [] rfl) rfl (Q_slen rfl) ?_
 refine S_o rfl rfl rfl rfl (O_callP (g1) rfl ⟨_, fun _ => ⟨Ent.reN [] rfl, Ent.refl _⟩, ?_⟩)
 refine Xa ?_
 refine Sq (Ent.re [] rfl) rfl (Q_sadd rfl rfl (by omega)) ?_
 refine Sq (Ent.re [] rfl) rfl (Q_sadd rfl rfl (by simp only [List.length_append]; omega)) ?_
 refine S_o rfl rfl rfl rfl (O_callP (g2) rfl ⟨_, fun _ => ⟨Ent.reN [] rfl, Ent.refl _⟩, ?_⟩)
 refine Xa ?_
 refine Sq (Ent.re [] rfl) rfl (Q_sadd rfl rfl (by simp only [List.length_append]; omega)) ?_
 refine S_o rfl rfl rfl rfl (O_callP (g3) rfl ⟨_, fun _ => ⟨Ent.reN [] rfl, Ent.refl _⟩, ?_⟩)
 refine Xa ?_
 refine Sq (Ent.re [] rfl) rfl (Q_sadd rfl rfl (by simp only [List.length_append]; omega)) ?_
 refine S_o rfl rfl rfl rfl (O_callP (g4) rfl ⟨_, fun _ => ⟨Ent.reN [] rfl, Ent.refl _⟩, ?_⟩)
 refine Xa ?_
 refine Sq (Ent.re [] rfl) rfl (Q_sadd rfl rfl (by simp only [List.length_append]; omega)) ?_
 refine S_o rfl rfl rfl rfl (O_callP (hm) rfl ⟨_, fun _ => ⟨Ent.reN [] rfl, Ent.refl _⟩, ?_⟩)
 refine Xa ?_
 refine XbD ?_
 refine Sq (Ent.re [] rfl) rfl (Q_ext20 rfl) ?_
 refine Sq (Ent.re [] rfl) rfl (Q_ext21 rfl) ?_
 refine Xck ?_
 refine Xck ?_
 refine Xu ?_
 refine Xg ?_
 exact XcL
theorem aseal_ok (E : World) (key nonce l x : List UInt8) (hk : key.length = 32) (hn : nonce.length = 12) (hl : l.length ≤ 1000000000) (hx : x.length ≤ 1000000000) : Does Tryz.prog E 34 [str key, str nonce, str l, str x] [] fun v L => v = .tuple #[str (aeS key nonce l x), .int .i64 0] ∧ L = [] := by
 refine Does.of Tryz.func34 rfl Tryz.ntmps34 rfl rfl fun F => ?_
 refine J.norm ?_
 have h1 := astream_ok E key nonce l hk hn hl
 have hz := xrS_len (chK key nonce 1) l
 unfold aeS
 generalize xrS (chK key nonce 1) l = z at *
 have h2 := asum_ok E key nonce z x hk hn (by omega) hx
 have hg := aeG_len key nonce x z
 generalize aeG key nonce x z = g at *
 refine Sr ?_
 refine Xab ?_
 refine Xk ?_
 refine L_o rfl rfl rfl (O_alloc fun b10 => ?_)
 refine XG ?_
 refine Xo ?_
 refine Lq (Q_makeFunc (vs := [lockV key nonce]) (us := []) rfl rfl) ?_
 refine XT ?_
 refine L_o rfl rfl rfl (O_dyn (vs := [str l]) (fs := #[lockV key nonce]) (cs := #[]) [] [0,1] rfl rfl rfl h1 rfl ?_)
 rintro _ _ ⟨rfl, rfl⟩
 refine XH ?_
 refine Xs ?_
 refine Xw ?_
 refine XbP ?_
 refine Xag ?_
 refine X1 ?_
 refine Xf ?_
 refine L_o rfl rfl rfl (O_callP (h2) rfl ?_)
 refine Lq (Q_sadd rfl rfl (by omega)) ?_
 refine Xs ?_
 exact Xc7
/-- What is opened: the text below the tag, where the tag is right. -/
theorem aopen_ok (E : World) (key nonce t x : List UInt8) (hk : key.length = 32) (hn : nonce.length = 12) (ht : t.length ≤ 1000000000) (h16 : 16 ≤ t.length) (hx : x.length ≤ 1000000000) : Does Tryz.prog E 40 [str key, str nonce, str t, str x] [] fun v L =>
 v = (if aeG key nonce x (t.take (t.length - 16)) = t.drop (t.length - 16) then .tuple #[str (xrS (chK key nonce 1) (t.take (t.length - 16))), .int .i64 0] else .tuple #[str [], .int .i64 4]) ∧ L = [] := by
 refine Does.of Tryz.func40 rfl Tryz.ntmps40 rfl rfl fun F => ?_
 refine J.norm ?_
 have hzl : (t.take (t.length - 16)).length = t.length - 16 := by rw [List.length_take]; omega
 have hdl : (t.drop (t.length - 16)).length = 16 := by rw [List.length_drop]; omega
 have h1 := astream_ok E key nonce (t.take (t.length - 16)) hk hn (by omega)
 have h2 := asum_ok E key nonce (t.take (t.length - 16)) x hk hn (by omega) hx
 have hg := aeG_len key nonce x (t.take (t.length - 16))
 have h3 := alike_ok E (aeG key nonce x (t.take (t.length - 16))) (t.drop (t.length - 16)) hg hdl
 generalize aeG key nonce x (t.take (t.length - 16)) = g at *
 refine Sr ?_
 refine Xam ?_
 refine XN ?_
 refine Lq ((Q_sub rfl rfl (IntWalk.i64_in _ (by omega))).as (v' := .int .i64 ((t.length - 16 : Nat) : Int)) (congrArg (Value.int .i64) (by omega))) ?_
 refine XA ?_
 refine XbY ?_
 refine J_condF rfl ?_
 refine XS ?_
 refine Xv ?_
 refine Xk ?_
 refine L_o rfl rfl rfl (O_alloc fun b11 => ?_)
 refine XG ?_
 refine Xo ?_
 refine Lq (Q_makeFunc (vs := [lockV key nonce]) (us := []) rfl rfl) ?_
 refine Xx ?_
 refine Xf ?_
 refine Lq (Q_ssH (t.length - 16) rfl rfl rfl (by omega)) ?_
 refine L_o rfl rfl rfl (O_dyn (vs := [str (t.take (t.length - 16))]) (fs := #[lockV key nonce]) (cs := #[]) [] [0,1] rfl rfl rfl h1 rfl ?_)
 rintro _ _ ⟨rfl, rfl⟩
 refine XH ?_
 refine Xs ?_
 refine Xw ?_
 refine XbP ?_
 refine Xay ?_
 refine J_seq ?_
 by_cases he : g = t.drop (t.length - 16)
 ·rw [if_pos he]
  refine Xfm ?_
  refine XaG ?_
  refine Sq (Ent.re [0] rfl) rfl (Q_ssH (t.length - 16) rfl rfl rfl (by omega)) ?_
  refine XaG ?_
  refine XU ?_
  refine Sq (Ent.re [0] rfl) rfl (Q_ssL (t.length - 16) rfl rfl rfl (by omega)) ?_
  refine S_o rfl rfl rfl rfl (O_callP (h2) rfl ⟨_, fun _ => ⟨Ent.reN [0] rfl, Ent.refl _⟩, ?_⟩)
  refine Xa ?_
  refine S_o rfl rfl rfl rfl (O_callP (h3) rfl ⟨_, fun _ => ⟨Ent.reN [0] rfl, Ent.refl _⟩, ?_⟩)
  refine Xa ?_
  refine Sq (Ent.re [0] rfl) rfl ((Q_notD rfl).as (v' := .bool false) (congrArg Value.bool (decide_eq_false (fun h => h he)))) ?_
  refine Xax ?_
  refine XS ?_
  refine Xg ?_
  refine Xs ?_
  exact Xc7
 ·rw [if_neg he]
  refine Xfm ?_
  refine XaG ?_
  refine Sq (Ent.re [0] rfl) rfl (Q_ssH (t.length - 16) rfl rfl rfl (by omega)) ?_
  refine XaG ?_
  refine XU ?_
  refine Sq (Ent.re [0] rfl) rfl (Q_ssL (t.length - 16) rfl rfl rfl (by omega)) ?_
  refine S_o rfl rfl rfl rfl (O_callP (h2) rfl ⟨_, fun _ => ⟨Ent.reN [0] rfl, Ent.refl _⟩, ?_⟩)
  refine Xa ?_
  refine S_o rfl rfl rfl rfl (O_callP (h3) rfl ⟨_, fun _ => ⟨Ent.reN [0] rfl, Ent.refl _⟩, ?_⟩)
  refine Xa ?_
  refine Sq (Ent.re [0] rfl) rfl ((Q_notD rfl).as (v' := .bool true) (congrArg Value.bool (decide_eq_true he))) ?_
  refine Xu ?_
  refine J_condT rfl ?_
  refine Sr ?_
  refine Xs ?_
  refine Xa1 ?_
  exact Xff
end Go.Proofs
/- HMAC: the key, the sum. -/
set_option autoImplicit false
namespace Go.SL
theorem Sat.lay_wt {β : Ty UInt8} {E w : World} {L : List HProp} (h : Sat E w L) {S : SV} (hS : S.no) : Sat E w (wtC β S [] :: L) := h.lay fun _ => .inl ⟨rfl, hS⟩
theorem Sat.wt_no {β : Ty UInt8} {E w : World} {L : List HProp} (h : Sat E w L) (i : Nat) {S : SV} (hi : L[i]? = some (wtC β S [])) : S.no := by
 obtain ⟨p, hp, _⟩ := h.at hi
 rcases hp with ⟨_, h1⟩ | ⟨h1, h2, h3⟩
 ·exact h1
 ·refine ⟨h1, fun ha => ?_⟩
  rcases h3 with ⟨_, hc⟩ | ⟨a, hS, _⟩ | ⟨_, _, hS, _⟩
  ·exact hc
  ·rw [ha] at hS; cases hS
  ·rw [ha] at hS; cases hS
end Go.SL
namespace Go.Proofs
open Go.SL
def hkey (key : List UInt8) : List UInt8 := if 64 < key.length then shaS key else key
theorem hkey_len (key : List UInt8) : (hkey key).length ≤ 64 := by
 unfold hkey; split
 ·rw [shaS_len]; decide
 ·omega
def hmA (key : List UInt8) (b : UInt8) : List UInt32 := absD shaF (padB (hkey key) b)
theorem hmA_len (key : List UInt8) (b : UInt8) : (hmA key b).length = 8 := absD_len _ _ shaF_len
theorem absR_64 {l : List UInt8} (h : l.length = 64) : absR l = [] := by
 unfold absR; rw [h]; exact List.drop_of_length_le (by omega)
/-- A sum that goes on behind 64 bytes. -/
def onS (hs : List UInt32) (l : List UInt8) : List UInt8 := shaO (absD hs l) (absR l) (64 + l.length)
theorem onS_len (hs : List UInt32) (l : List UInt8) (h : hs.length = 8) : (onS hs l).length = 32 := shaO_len _ _ _ (absD_len _ _ h)
def hmS (key l : List UInt8) : List UInt8 := onS (hmA key 92) (onS (hmA key 54) l)
theorem hmS_len (key l : List UInt8) : (hmS key l).length = 32 := onS_len _ _ (hmA_len _ _)
/-- A key, laid out. -/
abbrev keyL (key : List UInt8) (S1 S2 : SV) : List Value := stL (hmA key 54) S1 64 ++ stL (hmA key 92) S2 64
attribute [local irreducible] J JL QOp JOp seqQ blockQ loopQ retQ slc cel hex star pur stars Does RV Ent pAt scopeQ
theorem eightE {hs : List UInt32} (h : hs.length = 8) : ∃ a b c d e f g i, hs = [a, b, c, d, e, f, g, i] := by
 match hs, h with
 | [a, b, c, d, e, f, g, i], _ => exact ⟨a, b, c, d, e, f, g, i, rfl⟩
theorem hnew_ok (E : World) [hE : LaidE E] (key : List UInt8) (hl : key.length ≤ 1000000000) : Does Tryz.prog E 124 [str key] [] fun v L => ∃ S1 S2, S1.no ∧ S2.no ∧ v = .agg (keyL key S1 S2).toArray ∧ L = [] := by
 refine Does.of Tryz.func124 rfl Tryz.ntmps124 rfl rfl fun F => ?_
 refine Xb ?_
 refine L_o rfl rfl rfl (O_allocL (stL (List.replicate 8 0) SV.nil 0 ++ stL (List.replicate 8 0) SV.nil 0) (by kernel_rfl) (fun b2 => ?_))
 refine XQ ?_
 refine Xg ?_
 refine XN ?_
 refine Lq (Q_gtr rfl rfl) ?_
 refine Ln ?_
 refine J_join (fun k : List UInt8 => k = hkey key) (fun k => [(0, str k), (2, .pointer (some ⟨b2, 0, none⟩))]) (fun _ => [cel b2 (stL (List.replicate 8 0) SV.nil 0 ++ stL (List.replicate 8 0) SV.nil 0) 207, F]) ?_ ?_
 ·refine J_condD rfl (fun h => ?_) (fun h => ?_)
  ·skip
   refine Xe ?_
   refine L_o rfl rfl rfl (O_callP (sha_ok E key hl) rfl ?_)
   refine Xj ?_
   exact joinQ_normal (shaS key) (by unfold hkey; rw [if_pos (by omega)]) ⟨rfl, rfl, trivial⟩ (Ent.refl _)
  ·refine J_skip ?_
   exact joinQ_normal key (by unfold hkey; rw [if_neg (by omega)]) ⟨rfl, rfl, trivial⟩ (Ent.refl _)
 rintro k hk
 have hkl := hkey_len key
 have e1 : hmA key 54 = absD shaF (padB k 54) := by rw [hk]; rfl
 have e2 : hmA key 92 = absD shaF (padB k 92) := by rw [hk]; rfl
 rw [← hk] at hkl
 refine seqQ_normal ?_
 refine Sr ?_
 refine L_o rfl rfl rfl (O_call [] [0,1] (shaN_ok E) rfl rfl ?_)
 rintro _ _ ⟨p3, rfl, rfl⟩
 refine Xc ?_
 refine L_o rfl rfl rfl (O_call [] [0,1,2] (shaN_ok E) rfl rfl ?_)
 rintro _ _ ⟨p4, rfl, rfl⟩
 refine Xc ?_
 refine XaK ?_
 have h54 := padB_len k 54 hkl
 have h92 := padB_len k 92 hkl
 have c1 := shaW_ok E p3 shaF rfl SV.nil 0 [] (padB k 54) (by rw [h54]; decide) (by rw [h54]; decide)
 have c2 := shaW_ok E p4 shaF rfl SV.nil 0 [] (padB k 92) (by rw [h92]; decide) (by rw [h92]; decide)
 rw [List.nil_append, Nat.zero_add, absR_64 h54, h54, ← e1] at c1
 rw [List.nil_append, Nat.zero_add, absR_64 h92, h92, ← e2] at c2
 refine J.ent (Ent.mk fun _ _ h => (h.lay_wt (β := tB) (S := SV.nil) ⟨rfl, fun _ => rfl⟩ : Sat _ _ (_ :: _))) ?_
 refine Xl ?_
 refine L_o rfl rfl rfl (O_callP (padded_ok E k 54 hkl) rfl ?_)
 refine L_o rfl rfl rfl (O_call [2,0] [1,3,4] c1 rfl rfl ?_)
 rintro _ _ ⟨rfl, S1, rfl⟩
 refine XQ ?_
 refine J.have (fun w h => h.wt_no (β := tB) 1 rfl) fun hS1 => ?_
 refine J.ent (Ent.mk fun _ _ h => (h.lay_wt (β := tB) (S := SV.nil) ⟨rfl, fun _ => rfl⟩ : Sat _ _ (_ :: _))) ?_
 refine Xl ?_
 refine L_o rfl rfl rfl (O_callP (padded_ok E k 92 hkl) rfl ?_)
 refine L_o rfl rfl rfl (O_call [3,0] [1,2,4,5] c2 rfl rfl ?_)
 rintro _ _ ⟨rfl, S2, rfl⟩
 refine XQ ?_
 refine J.have (fun w h => h.wt_no (β := tB) 1 rfl) fun hS2 => ?_
 obtain ⟨x0, x1, x2, x3, x4, x5, x6, x7, hx⟩ := eightE (hmA_len key 54)
 obtain ⟨y0, y1, y2, y3, y4, y5, y6, y7, hy⟩ := eightE (hmA_len key 92)
 unfold keyL
 rw [hx, hy]
 refine DH [0,2] [0,1,2,3,4,5,6] (.quiet 0 (.quiet 1 (.quiet 2 (.quiet 3 (.quiet 4 (.quiet 5 (.quiet 6 (.loud 7 .done)))))))) Tryz.mixed ?_
 refine XeW ?_
 refine Sq (Ent.re [0,2] rfl) rfl (Q_ldS (vs := [w32 x0, w32 x1, w32 x2, w32 x3, w32 x4, w32 x5, w32 x6, w32 x7, S1.v, .int .u64 64]) 1 rfl rfl rfl rfl rfl) ?_
 refine XeW ?_
 refine Sq (Ent.re [0,2] rfl) rfl (Q_ldS (vs := [w32 y0, w32 y1, w32 y2, w32 y3, w32 y4, w32 y5, w32 y6, w32 y7, S2.v, .int .u64 64]) 0 rfl rfl rfl rfl rfl) ?_
 refine Sq (Ent.re [0,2] rfl) rfl (Q_build rfl) ?_
 refine S_s rfl rfl rfl (O_stV (o := 0) (sz := 20) (vs := [w32 x0, w32 x1, w32 x2, w32 x3, w32 x4, w32 x5, w32 x6, w32 x7, S1.v, .int .u64 64, w32 y0, w32 y1, w32 y2, w32 y3, w32 y4, w32 y5, w32 y6, w32 y7, S2.v, .int .u64 64]) 4 rfl rfl rfl rfl (by simp [Value.oneCell']) (by decide) ⟨[], free_no (by kernel_rfl), ?_⟩)
 refine Xbg ?_
 refine J_ret ?_
 exact retQ_ret _ [] (.cons (RV_cell 4 rfl rfl rfl rfl) .nil) ⟨S1, S2, hS1, hS2, rfl, rfl⟩ (Ent.re [5] rfl)
end Go.Proofs
