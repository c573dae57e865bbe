/- Part 42 of the texts below the row: Cha1, Cha2, Cha3. -/
import Derived.Test.YtdggicfcpcjjlaaGreatDoorM1
import Derived.Test.YtdggicfcpcjjlaaGreatDoorM13
import Derived.Test.YtdggicfcpcjjlaaGreatDoorM41
/- ChaCha20: a quarter round. -/
set_option autoImplicit false
namespace Go.Proofs
open Go.SL
def qad (l : List UInt32) (x y : Nat) : List UInt32 := l.set x (l.getD x 0 + l.getD y 0)
def qxr (l : List UInt32) (x y s : Nat) : List UInt32 := l.set x (rotl (l.getD x 0 ^^^ l.getD y 0) s)
theorem qad_len (l : List UInt32) (x y : Nat) : (qad l x y).length = l.length := List.length_set
theorem qxr_len (l : List UInt32) (x y s : Nat) : (qxr l x y s).length = l.length := List.length_set
def qrt (l : List UInt32) (a b c d : Nat) : List UInt32 := qxr (qad (qxr (qad (qxr (qad (qxr (qad l a b) d a 16) c d) b c 12) a b) d a 8) c d) b c 7
theorem qrt_len (l : List UInt32) (a b c d : Nat) : (qrt l a b c d).length = l.length := by unfold qrt; simp only [qxr_len, qad_len]
attribute [local irreducible] J JL QOp JOp seqQ blockQ loopQ retQ slc cel hex star pur stars Does RV Ent pAt scopeQ
theorem quarter_ok (E : World) (p : Nat) (l : List UInt32) (hl : l.length = 16) (a b c d : Nat) (ha : a < 16) (hb : b < 16) (hc : c < 16) (hd : d < 16) : Does Tryz.prog E 199 [.pointer (some ⟨p, 0, none⟩), .int .i64 (a : Int), .int .i64 (b : Int), .int .i64 (c : Int), .int .i64 (d : Int)] [cel p (l.map w32) 261] fun v L => v = .tuple #[] ∧ L = [cel p ((qrt l a b c d).map w32) 261] := by
 refine Does.of Tryz.func199 rfl Tryz.ntmps199 rfl rfl fun F => ?_
 refine J.norm ?_
 unfold qrt
 have g0 := map_get (l := l) (i := a) (by omega)
 have k0 := map_get (l := l) (i := b) (by omega)
 refine J_seq ?_
 refine XdK ?_
 refine XcZ ?_
 refine Sq (Ent.re [0] rfl) rfl (Q_ld 0 rfl rfl rfl g0) ?_
 refine Xak ?_
 refine Xc2 ?_
 refine Sq (Ent.re [0] rfl) rfl (Q_ld 0 rfl rfl rfl k0) ?_
 refine XbC ?_
 refine XaE ?_
 refine XcZ ?_
 refine S_s rfl rfl rfl (O_stS 0 rfl rfl rfl rfl rfl (by rw [List.length_map]; omega) ⟨[], free_no (by kernel_rfl), ?_⟩)
 refine Xa ?_
 refine XaY ?_
 rw [← List.map_set]
 change J _ _ _ _ _ _ (cel p ((qad l a b).map w32) _ :: _)
 have hl1 : (qad l a b).length = 16 := (List.length_set).trans hl
 clear g0 k0
 generalize qad l a b = l1 at *
 have g1 := map_get (l := l1) (i := d) (by omega)
 have k1 := map_get (l := l1) (i := a) (by omega)
 refine XdI ?_
 refine Xak ?_
 refine Xc0 ?_
 refine Sq (Ent.re [0] rfl) rfl (Q_ld 0 rfl rfl rfl g1) ?_
 refine Xak ?_
 refine XcZ ?_
 refine Sq (Ent.re [0] rfl) rfl (Q_ld 0 rfl rfl rfl k1) ?_
 refine Xbp ?_
 refine XaE ?_
 refine S_o rfl rfl rfl rfl (O_callP (rotl_ok E _ 16 16 ⟨16, rfl, by decide, rfl⟩ (by decide) (by decide)) rfl ⟨_, fun _ => ⟨Ent.reN [0] rfl, Ent.refl _⟩, ?_⟩)
 refine Xa ?_
 refine Xc0 ?_
 refine S_s rfl rfl rfl (O_stS 0 rfl rfl rfl rfl rfl (by rw [List.length_map]; omega) ⟨[], free_no (by kernel_rfl), ?_⟩)
 refine Xa ?_
 refine XaY ?_
 rw [← List.map_set]
 change J _ _ _ _ _ _ (cel p ((qxr l1 d a 16).map w32) _ :: _)
 have hl2 : (qxr l1 d a 16).length = 16 := (List.length_set).trans hl1
 clear g1 k1
 generalize qxr l1 d a 16 = l2 at *
 have g2 := map_get (l := l2) (i := c) (by omega)
 have k2 := map_get (l := l2) (i := d) (by omega)
 refine XdK ?_
 refine Xc1 ?_
 refine Sq (Ent.re [0] rfl) rfl (Q_ld 0 rfl rfl rfl g2) ?_
 refine Xak ?_
 refine Xc0 ?_
 refine Sq (Ent.re [0] rfl) rfl (Q_ld 0 rfl rfl rfl k2) ?_
 refine XbC ?_
 refine XaE ?_
 refine Xc1 ?_
 refine S_s rfl rfl rfl (O_stS 0 rfl rfl rfl rfl rfl (by rw [List.length_map]; omega) ⟨[], free_no (by kernel_rfl), ?_⟩)
 refine Xa ?_
 refine XaY ?_
 rw [← List.map_set]
 change J _ _ _ _ _ _ (cel p ((qad l2 c d).map w32) _ :: _)
 have hl3 : (qad l2 c d).length = 16 := (List.length_set).trans hl2
 clear g2 k2
 generalize qad l2 c d = l3 at *
 have g3 := map_get (l := l3) (i := b) (by omega)
 have k3 := map_get (l := l3) (i := c) (by omega)
 refine XdI ?_
 refine Xak ?_
 refine Xc2 ?_
 refine Sq (Ent.re [0] rfl) rfl (Q_ld 0 rfl rfl rfl g3) ?_
 refine Xak ?_
 refine Xc1 ?_
 refine Sq (Ent.re [0] rfl) rfl (Q_ld 0 rfl rfl rfl k3) ?_
 refine Xbp ?_
 refine XaE ?_
 refine S_o rfl rfl rfl rfl (O_callP (rotl_ok E _ 12 12 ⟨12, rfl, by decide, rfl⟩ (by decide) (by decide)) rfl ⟨_, fun _ => ⟨Ent.reN [0] rfl, Ent.refl _⟩, ?_⟩)
 refine Xa ?_
 refine Xc2 ?_
 refine S_s rfl rfl rfl (O_stS 0 rfl rfl rfl rfl rfl (by rw [List.length_map]; omega) ⟨[], free_no (by kernel_rfl), ?_⟩)
 refine Xa ?_
 refine XaY ?_
 rw [← List.map_set]
 change J _ _ _ _ _ _ (cel p ((qxr l3 b c 12).map w32) _ :: _)
 have hl4 : (qxr l3 b c 12).length = 16 := (List.length_set).trans hl3
 clear g3 k3
 generalize qxr l3 b c 12 = l4 at *
 have g4 := map_get (l := l4) (i := a) (by omega)
 have k4 := map_get (l := l4) (i := b) (by omega)
 refine XdK ?_
 refine XcZ ?_
 refine Sq (Ent.re [0] rfl) rfl (Q_ld 0 rfl rfl rfl g4) ?_
 refine Xak ?_
 refine Xc2 ?_
 refine Sq (Ent.re [0] rfl) rfl (Q_ld 0 rfl rfl rfl k4) ?_
 refine XbC ?_
 refine XaE ?_
 refine XcZ ?_
 refine S_s rfl rfl rfl (O_stS 0 rfl rfl rfl rfl rfl (by rw [List.length_map]; omega) ⟨[], free_no (by kernel_rfl), ?_⟩)
 refine Xa ?_
 refine XaY ?_
 rw [← List.map_set]
 change J _ _ _ _ _ _ (cel p ((qad l4 a b).map w32) _ :: _)
 have hl5 : (qad l4 a b).length = 16 := (List.length_set).trans hl4
 clear g4 k4
 generalize qad l4 a b = l5 at *
 have g5 := map_get (l := l5) (i := d) (by omega)
 have k5 := map_get (l := l5) (i := a) (by omega)
 refine XdI ?_
 refine Xak ?_
 refine Xc0 ?_
 refine Sq (Ent.re [0] rfl) rfl (Q_ld 0 rfl rfl rfl g5) ?_
 refine Xak ?_
 refine XcZ ?_
 refine Sq (Ent.re [0] rfl) rfl (Q_ld 0 rfl rfl rfl k5) ?_
 refine Xbp ?_
 refine XaE ?_
 refine S_o rfl rfl rfl rfl (O_callP (rotl_ok E _ 8 8 ⟨8, rfl, by decide, rfl⟩ (by decide) (by decide)) rfl ⟨_, fun _ => ⟨Ent.reN [0] rfl, Ent.refl _⟩, ?_⟩)
 refine Xa ?_
 refine Xc0 ?_
 refine S_s rfl rfl rfl (O_stS 0 rfl rfl rfl rfl rfl (by rw [List.length_map]; omega) ⟨[], free_no (by kernel_rfl), ?_⟩)
 refine Xa ?_
 refine XaY ?_
 rw [← List.map_set]
 change J _ _ _ _ _ _ (cel p ((qxr l5 d a 8).map w32) _ :: _)
 have hl6 : (qxr l5 d a 8).length = 16 := (List.length_set).trans hl5
 clear g5 k5
 generalize qxr l5 d a 8 = l6 at *
 have g6 := map_get (l := l6) (i := c) (by omega)
 have k6 := map_get (l := l6) (i := d) (by omega)
 refine XdK ?_
 refine Xc1 ?_
 refine Sq (Ent.re [0] rfl) rfl (Q_ld 0 rfl rfl rfl g6) ?_
 refine Xak ?_
 refine Xc0 ?_
 refine Sq (Ent.re [0] rfl) rfl (Q_ld 0 rfl rfl rfl k6) ?_
 refine XbC ?_
 refine XaE ?_
 refine Xc1 ?_
 refine S_s rfl rfl rfl (O_stS 0 rfl rfl rfl rfl rfl (by rw [List.length_map]; omega) ⟨[], free_no (by kernel_rfl), ?_⟩)
 refine Xbg ?_
 rw [← List.map_set]
 change J _ _ _ _ _ _ (cel p ((qad l6 c d).map w32) _ :: _)
 have hl7 : (qad l6 c d).length = 16 := (List.length_set).trans hl6
 clear g6 k6
 generalize qad l6 c d = l7 at *
 have g7 := map_get (l := l7) (i := b) (by omega)
 have k7 := map_get (l := l7) (i := c) (by omega)
 refine XdI ?_
 refine Xak ?_
 refine Xc2 ?_
 refine Sq (Ent.re [0] rfl) rfl (Q_ld 0 rfl rfl rfl g7) ?_
 refine Xak ?_
 refine Xc1 ?_
 refine Sq (Ent.re [0] rfl) rfl (Q_ld 0 rfl rfl rfl k7) ?_
 refine Xbp ?_
 refine XaE ?_
 refine S_o rfl rfl rfl rfl (O_callP (rotl_ok E _ 7 7 ⟨7, rfl, by decide, rfl⟩ (by decide) (by decide)) rfl ⟨_, fun _ => ⟨Ent.reN [0] rfl, Ent.refl _⟩, ?_⟩)
 refine Xa ?_
 refine Xc2 ?_
 refine S_s rfl rfl rfl (O_stS 0 rfl rfl rfl rfl rfl (by rw [List.length_map]; omega) ⟨[], free_no (by kernel_rfl), ?_⟩)
 refine Xaq ?_
 rw [← List.map_set]
 exact XcY
end Go.Proofs
/- ChaCha20: a block. -/
set_option autoImplicit false
namespace Go.Proofs
open Go.SL
def chw (s : List UInt8) : UInt32 := (s.getD 0 0).toUInt32 ||| (s.getD 1 0).toUInt32 <<< UInt32.ofNat 8 ||| (s.getD 2 0).toUInt32 <<< UInt32.ofNat 16 ||| (s.getD 3 0).toUInt32 <<< UInt32.ofNat 24
def ch0 (c : UInt32) : List UInt32 := [1634760805, 857760878, 2036477234, 1797285236, 0, 0, 0, 0, 0, 0, 0, 0, c, 0, 0, 0]
def chI (b : Nat) (s : List UInt8) (l : List UInt32) : Nat → List UInt32
 | 0 => l
 | i + 1 => (chI b s l i).set (b + i) (chw (s.drop (4 * i)))
theorem chI_len (b : Nat) (s : List UInt8) (l : List UInt32) : ∀ i, (chI b s l i).length = l.length
 | 0 => rfl
 | i + 1 => by rw [chI, List.length_set, chI_len b s l i]
def chN (key nonce : List UInt8) (c : UInt32) : List UInt32 := chI 13 nonce (chI 4 key (ch0 c) 8) 3
theorem chN_len (key nonce : List UInt8) (c : UInt32) : (chN key nonce c).length = 16 := by unfold chN; rw [chI_len, chI_len]; rfl
def dbl (l : List UInt32) : List UInt32 := qrt (qrt (qrt (qrt (qrt (qrt (qrt (qrt l 0 4 8 12) 1 5 9 13) 2 6 10 14) 3 7 11 15) 0 5 10 15) 1 6 11 12) 2 7 8 13) 3 4 9 14
theorem dbl_len (l : List UInt32) : (dbl l).length = l.length := by unfold dbl; simp only [qrt_len]
def dbls (l : List UInt32) : Nat → List UInt32
 | 0 => l
 | i + 1 => dbl (dbls l i)
theorem dbls_len (l : List UInt32) : ∀ i, (dbls l i).length = l.length
 | 0 => rfl
 | i + 1 => by rw [dbls, dbl_len, dbls_len l i]
def chb (l m : List UInt32) (i : Nat) : UInt8 := ((m.getD (i / 4) 0 + l.getD (i / 4) 0) >>> UInt32.ofNat (8 * (i % 4))).toUInt8
def chO (l m : List UInt32) : Nat → List UInt8
 | 0 => []
 | k + 1 => chO l m k ++ [chb l m k]
theorem chO_len (l m : List UInt32) : ∀ k, (chO l m k).length = k
 | 0 => rfl
 | k + 1 => by rw [chO, List.length_append, chO_len l m k]; rfl
def chM (l m : List UInt32) (k : Nat) : List UInt8 := chO l m k ++ List.replicate (64 - k) 0
theorem chM_len (l m : List UInt32) {k : Nat} (h : k ≤ 64) : (chM l m k).length = 64 := by unfold chM; rw [List.length_append, chO_len, List.length_replicate]; omega
theorem chM_set (l m : List UInt32) {k : Nat} (h : k < 64) : (chM l m k).set k (chb l m k) = chM l m (k + 1) := by
 unfold chM
 rw [List.set_append_right _ _ (by rw [chO_len]; omega), chO_len, Nat.sub_self, show 64 - k = (64 - (k + 1)) + 1 by omega, List.replicate_succ, List.set_cons_zero, chO, List.append_assoc]
 rfl
/-- A block of the stream. -/
def chB (l : List UInt32) : List UInt8 := chO l (dbls l 10) 64
theorem chB_len (l : List UInt32) : (chB l).length = 64 := chO_len _ _ 64
def chX (l : List UInt32) : List UInt32 := l.set 12 (l.getD 12 0 + 1)
instance : Places Tryz.prog 261 [(0, 1), (1, 1), (2, 1), (3, 1), (4, 1), (5, 1), (6, 1), (7, 1), (8, 1), (9, 1), (10, 1), (11, 1), (12, 1), (13, 1), (14, 1), (15, 1)] [.int .u32 0, .int .u32 0, .int .u32 0, .int .u32 0, .int .u32 0, .int .u32 0, .int .u32 0, .int .u32 0, .int .u32 0, .int .u32 0, .int .u32 0, .int .u32 0, .int .u32 0, .int .u32 0, .int .u32 0, .int .u32 0] := Places.arrN (k := .u32) rfl rfl rfl
attribute [local irreducible] J JL QOp JOp seqQ blockQ loopQ retQ slc cel hex star pur stars Does RV Ent pAt scopeQ
theorem chword_ok (E : World) (s : List UInt8) (h : 4 ≤ s.length) : Does Tryz.prog E 198 [str s] [] fun v L => v = w32 (chw s) ∧ L = [] := by
 refine Does.of Tryz.func198 rfl Tryz.ntmps198 rfl rfl fun F => ?_
 refine J.norm ?_
 unfold chw
 rw [← getD_ok s 0 0 (by omega), ← getD_ok s 1 0 (by omega), ← getD_ok s 2 0 (by omega), ← getD_ok s 3 0 (by omega)]
 refine Sr ?_
 refine Xn ?_
 refine DH [] [0,1,2,3,4,5,6,7,8,9,10,11,12,13,14,15,16,17,18] (.quiet 0 (.quiet 1 (.quiet 2 (.quiet 3 (.quiet 4 (.quiet 5 (.quiet 6 (.quiet 7 (.quiet 8 (.quiet 9 (.quiet 10 (.quiet 11 (.quiet 12 (.quiet 13 (.quiet 14 (.quiet 15 (.quiet 16 (.quiet 17 (.quiet 18 .done))))))))))))))))))) Tryz.mixed ?_
 refine XbD ?_
 refine Sq (Ent.re [] rfl) rfl (Q_sindex 0 rfl rfl rfl (by omega)) ?_
 refine Sq (Ent.re [] rfl) rfl (Q_cvt8W rfl) ?_
 refine XbD ?_
 refine Sq (Ent.re [] rfl) rfl (Q_sindex 1 rfl rfl rfl (by omega)) ?_
 refine Sq (Ent.re [] rfl) rfl (Q_cvt8W rfl) ?_
 refine Sq (Ent.re [] rfl) rfl (Q_shlW 8 rfl rfl (by decide)) ?_
 refine Sq (Ent.re [] rfl) rfl (Q_orW rfl rfl) ?_
 refine XbD ?_
 refine Sq (Ent.re [] rfl) rfl (Q_sindex 2 rfl rfl rfl (by omega)) ?_
 refine Sq (Ent.re [] rfl) rfl (Q_cvt8W rfl) ?_
 refine Sq (Ent.re [] rfl) rfl (Q_shlW 16 rfl rfl (by decide)) ?_
 refine Sq (Ent.re [] rfl) rfl (Q_orW rfl rfl) ?_
 refine XbD ?_
 refine Sq (Ent.re [] rfl) rfl (Q_sindex 3 rfl rfl rfl (by omega)) ?_
 refine Sq (Ent.re [] rfl) rfl (Q_cvt8W rfl) ?_
 refine Sq (Ent.re [] rfl) rfl (Q_shlW 24 rfl rfl (by decide)) ?_
 refine Sq (Ent.re [] rfl) rfl (Q_orW rfl rfl) ?_
 refine Xck ?_
 refine Xu ?_
 refine J_ret ?_
 exact retQ_ret _ [] (.cons (RV_tmp rfl) .nil) ⟨rfl, rfl⟩ (Ent.re [0] rfl)
theorem one32 (l : List UInt32) : ∀ v ∈ l.map w32, v.oneCell' = true := by
 intro v hv; obtain ⟨x, _, rfl⟩ := List.mem_map.1 hv; rfl
theorem one8 (l : List UInt8) : ∀ v ∈ clB l, v.oneCell' = true := by
 intro v hv; obtain ⟨x, _, rfl⟩ := List.mem_map.1 hv; rfl
theorem chnew_ok (E : World) (key nonce : List UInt8) (c : UInt32) (hk : key.length = 32) (hn : nonce.length = 12) : Does Tryz.prog E 180 [str key, str nonce, w32 c] [] fun v L => v = .tuple #[.agg ((chN key nonce c).map w32).toArray, .int .i64 0] ∧ L = [] := by
 refine Does.of Tryz.func180 rfl Tryz.ntmps180 rfl rfl fun F => ?_
 refine J.norm ?_
 unfold chN
 refine Sr ?_
 refine L_o rfl rfl rfl (O_allocL ((List.replicate 16 (0 : UInt32)).map w32) (by kernel_rfl) (fun b6 => ?_))
 refine Xbf ?_
 refine XN ?_
 refine Xci ?_
 refine Xf ?_
 refine XN ?_
 refine Xci ?_
 refine Lq ((Q_pickB rfl rfl rfl).as (v' := .bool false) rfl) ?_
 refine Xag ?_
 refine Xk ?_
 refine L_o rfl rfl rfl (O_alloc fun b8 => ?_)
 refine XB ?_
 refine J_seq ?_
 have h0 : (ch0 c).length = 16 := rfl
 change J _ _ _ _ _ _ (cel b8 ((chI 4 key (ch0 c) 0).map w32) _ :: _)
 generalize ch0 c = z at *
 refine Xe ?_
 refine XP ?_
 refine J_loop (fun i : Nat => i ≤ 8) (fun i => [(0, str key), (1, str nonce), (6, .pointer (some ⟨b6, 0, none⟩)), (8, .pointer (some ⟨b8, 0, none⟩)), (22, .int .i64 (i : Int))]) (fun i => [cel b8 ((chI 4 key z i).map w32) 261, cel b6 ((List.replicate 16 (0 : UInt32)).map w32) 261, F]) (fun i => 8 - i) 0 (Nat.zero_le _) ⟨rfl, rfl, rfl, rfl, rfl, trivial⟩ (Ent.refl _) ?_
 intro i hi
 by_cases h : i < 8
 ·have hl := (chI_len 4 key z i).trans h0
  have eS : (chI 4 key z i).set (4 + i) (chw (key.drop (4 * i))) = chI 4 key z (i + 1) := rfl
  generalize chI 4 key z i = A at *
  have hw := chword_ok E (key.drop (4 * i)) (by rw [List.length_drop]; omega)
  refine XR ?_
  refine Xi ?_
  refine Xe ?_
  refine Lq ((Q_add rfl rfl (IntWalk.i64_in _ (by omega))).as (v' := .int .i64 ((4 + i : Nat) : Int)) rfl) ?_
  refine Xf ?_
  refine XfI ?_
  refine L_o rfl rfl rfl (O_callP (hw) rfl ?_)
  refine Lq (Q_ia (o' := 4 + i) (4 + i) rfl rfl rfl (by omega) (by omega)) ?_
  refine L_s rfl rfl (O_stS 0 rfl rfl rfl rfl rfl (by rw [List.length_map, hl]; omega) ?_)
  refine Xas ?_
  rw [← List.map_set, eS]
  refine Xh ?_
  exact XdQ
 ·obtain rfl : i = 8 := by omega
  have h1 := (chI_len 4 key z 8).trans h0
  generalize chI 4 key z 8 = y at *
  refine Xbb ?_
  refine Xw ?_
  refine XP ?_
  refine J_loop (fun i : Nat => i ≤ 3) (fun i => [(1, str nonce), (6, .pointer (some ⟨b6, 0, none⟩)), (8, .pointer (some ⟨b8, 0, none⟩)), (34, .int .i64 (i : Int))]) (fun i => [cel b8 ((chI 13 nonce y i).map w32) 261, cel b6 ((List.replicate 16 (0 : UInt32)).map w32) 261, F]) (fun i => 3 - i) 0 (Nat.zero_le _) ⟨rfl, rfl, rfl, rfl, trivial⟩ (Ent.refl _) ?_
  intro i hi
  by_cases h : i < 3
  ·have hl := (chI_len 13 nonce y i).trans h1
   have eS : (chI 13 nonce y i).set (13 + i) (chw (nonce.drop (4 * i))) = chI 13 nonce y (i + 1) := rfl
   generalize chI 13 nonce y i = A at *
   have hw := chword_ok E (nonce.drop (4 * i)) (by rw [List.length_drop]; omega)
   refine XR ?_
   refine Xi ?_
   refine Xe ?_
   refine Lq ((Q_add rfl rfl (IntWalk.i64_in _ (by omega))).as (v' := .int .i64 ((13 + i : Nat) : Int)) rfl) ?_
   refine Xf ?_
   refine XfI ?_
   refine L_o rfl rfl rfl (O_callP (hw) rfl ?_)
   refine Lq (Q_ia (o' := 13 + i) (13 + i) rfl rfl rfl (by omega) (by omega)) ?_
   refine L_s rfl rfl (O_stS 0 rfl rfl rfl rfl rfl (by rw [List.length_map, hl]; omega) ?_)
   refine Xas ?_
   rw [← List.map_set, eS]
   refine Xh ?_
   exact Xc9
  ·obtain rfl : i = 3 := by omega
   have hl := (chI_len 13 nonce y 3).trans h1
   generalize chI 13 nonce y 3 = A at *
   have hl2 : (A.map w32).length = 16 := by rw [List.length_map, hl]
   refine Xbk ?_
   refine Lq (Q_ldS (sz := 16) (vs := A.map w32) 0 rfl rfl rfl (take_all hl2) hl2) ?_
   refine L_s rfl rfl (O_stV (o := 0) (sz := 16) 1 rfl rfl rfl hl2 (one32 A) (by simp) ?_)
   refine Xaa ?_
   rw [whole_put (a := (List.replicate 16 (0 : UInt32)).map w32) (by simp)]
   exact retQ_ret [_, _] [] (.cons (RV_cell 1 rfl rfl rfl hl2) (.cons (RV_tmp rfl) .nil)) ⟨rfl, rfl⟩ (Ent.re [2] rfl)
end Go.Proofs
/- ChaCha20: a block's bytes. -/
set_option autoImplicit false
namespace Go.Proofs
open Go.SL
attribute [local irreducible] J JL QOp JOp seqQ blockQ loopQ retQ slc cel hex star pur stars Does RV Ent pAt scopeQ
theorem chbytes_ok (E : World) (l : List UInt32) (hl : l.length = 16) : Does Tryz.prog E 181 [.agg (l.map w32).toArray] [] fun v L => v = .agg (clB (chB l)).toArray ∧ L = [] := by
 refine Does.of Tryz.func181 rfl Tryz.ntmps181 rfl rfl fun F => ?_
 refine J.norm ?_
 have hl2 : (l.map w32).length = 16 := by rw [List.length_map, hl]
 unfold chB
 refine Sr ?_
 refine L_o rfl rfl rfl (O_box rfl fun b1 => ?_)
 refine L_o rfl rfl rfl (O_allocL (clB (List.replicate 64 0)) (by kernel_rfl) (fun b2 => ?_))
 refine Xr ?_
 refine Sr ?_
 refine Lq (Q_ldS (sz := 16) (vs := l.map w32) 1 rfl rfl rfl (take_all hl2) hl2) ?_
 refine L_o rfl rfl rfl (O_allocL ((List.replicate 16 (0 : UInt32)).map w32) (by kernel_rfl) (fun b3 => ?_))
 refine Xc ?_
 refine L_s rfl rfl (O_stV (o := 0) (sz := 16) 0 rfl rfl rfl hl2 (one32 l) (by simp) ?_)
 refine XQ ?_
 refine J_seq ?_
 rw [whole_put (a := (List.replicate 16 (0 : UInt32)).map w32) (by simp)]
 refine Xe ?_
 refine XP ?_
 refine J_loop (fun i : Nat => i ≤ 10) (fun i => [(1, .pointer (some ⟨b1, 0, none⟩)), (2, .pointer (some ⟨b2, 0, none⟩)), (3, .pointer (some ⟨b3, 0, none⟩)), (8, .int .i64 (i : Int))]) (fun i => [cel b3 ((dbls l i).map w32) 261, cel b2 (clB (List.replicate 64 0)) 264, cel b1 (l.map w32) 261, F]) (fun i => 10 - i) 0 (Nat.zero_le _) ⟨rfl, rfl, rfl, rfl, trivial⟩ (Ent.refl _) ?_
 intro i hi
 by_cases h : i < 10
 ·have hA := (dbls_len l i).trans hl
  have eS : dbls l (i + 1) = dbl (dbls l i) := rfl
  generalize hB : dbls l (i + 1) = B at *
  generalize dbls l i = A at *
  unfold dbl at eS
  refine Xaz ?_
  refine L_o rfl rfl rfl (O_call [0] [1,2,3] (quarter_ok E b3 A hA 0 4 8 12 (by decide) (by decide) (by decide) (by decide)) rfl rfl ?_)
  rintro _ _ ⟨rfl, rfl⟩
  refine XQ ?_
  have h1 : (qrt A 0 4 8 12).length = 16 := (qrt_len _ _ _ _ _).trans hA
  generalize qrt A 0 4 8 12 = l1 at *
  refine Xh ?_
  refine L_o rfl rfl rfl (O_call [0] [1,2,3] (quarter_ok E b3 l1 h1 1 5 9 13 (by decide) (by decide) (by decide) (by decide)) rfl rfl ?_)
  rintro _ _ ⟨rfl, rfl⟩
  refine XQ ?_
  have h2 : (qrt l1 1 5 9 13).length = 16 := (qrt_len _ _ _ _ _).trans h1
  generalize qrt l1 1 5 9 13 = l2 at *
  refine Xh ?_
  refine L_o rfl rfl rfl (O_call [0] [1,2,3] (quarter_ok E b3 l2 h2 2 6 10 14 (by decide) (by decide) (by decide) (by decide)) rfl rfl ?_)
  rintro _ _ ⟨rfl, rfl⟩
  refine XQ ?_
  have h3 : (qrt l2 2 6 10 14).length = 16 := (qrt_len _ _ _ _ _).trans h2
  generalize qrt l2 2 6 10 14 = l3 at *
  refine Xh ?_
  refine L_o rfl rfl rfl (O_call [0] [1,2,3] (quarter_ok E b3 l3 h3 3 7 11 15 (by decide) (by decide) (by decide) (by decide)) rfl rfl ?_)
  rintro _ _ ⟨rfl, rfl⟩
  refine XQ ?_
  have h4 : (qrt l3 3 7 11 15).length = 16 := (qrt_len _ _ _ _ _).trans h3
  generalize qrt l3 3 7 11 15 = l4 at *
  refine Xh ?_
  refine L_o rfl rfl rfl (O_call [0] [1,2,3] (quarter_ok E b3 l4 h4 0 5 10 15 (by decide) (by decide) (by decide) (by decide)) rfl rfl ?_)
  rintro _ _ ⟨rfl, rfl⟩
  refine XQ ?_
  have h5 : (qrt l4 0 5 10 15).length = 16 := (qrt_len _ _ _ _ _).trans h4
  generalize qrt l4 0 5 10 15 = l5 at *
  refine Xh ?_
  refine L_o rfl rfl rfl (O_call [0] [1,2,3] (quarter_ok E b3 l5 h5 1 6 11 12 (by decide) (by decide) (by decide) (by decide)) rfl rfl ?_)
  rintro _ _ ⟨rfl, rfl⟩
  refine XQ ?_
  have h6 : (qrt l5 1 6 11 12).length = 16 := (qrt_len _ _ _ _ _).trans h5
  generalize qrt l5 1 6 11 12 = l6 at *
  refine Xh ?_
  refine L_o rfl rfl rfl (O_call [0] [1,2,3] (quarter_ok E b3 l6 h6 2 7 8 13 (by decide) (by decide) (by decide) (by decide)) rfl rfl ?_)
  rintro _ _ ⟨rfl, rfl⟩
  refine Xr ?_
  have h7 : (qrt l6 2 7 8 13).length = 16 := (qrt_len _ _ _ _ _).trans h6
  generalize qrt l6 2 7 8 13 = l7 at *
  refine Xh ?_
  refine L_o rfl rfl rfl (O_call [0] [1,2,3] (quarter_ok E b3 l7 h7 3 4 9 14 (by decide) (by decide) (by decide) (by decide)) rfl rfl ?_)
  rintro _ _ ⟨rfl, rfl⟩
  refine Xas ?_
  have h8 : (qrt l7 3 4 9 14).length = 16 := (qrt_len _ _ _ _ _).trans h7
  generalize qrt l7 3 4 9 14 = l8 at *
  subst eS
  refine Xh ?_
  refine Xbu ?_
  refine loopQ_normal (i + 1) (by omega) (by omega) ⟨rfl, rfl, rfl, rfl, trivial⟩ ?_
  rw [hB]
  exact Ent.refl _
 ·obtain rfl : i = 10 := by omega
  have hm := (dbls_len l 10).trans hl
  generalize dbls l 10 = m at *
  refine Xbk ?_
  refine L_o rfl rfl rfl (O_allocL (clB (List.replicate 64 0)) (by kernel_rfl) (fun b4 => ?_))
  refine XQ ?_
  refine Xg ?_
  refine XP ?_
  have h0 : List.replicate 64 (0 : UInt8) = chM l m 0 := rfl
  refine J_loop (fun i : Nat => i ≤ 64) (fun i => [(1, .pointer (some ⟨b1, 0, none⟩)), (2, .pointer (some ⟨b2, 0, none⟩)), (3, .pointer (some ⟨b3, 0, none⟩)), (4, .pointer (some ⟨b4, 0, none⟩)), (19, .int .i64 (i : Int))]) (fun i => [cel b4 (clB (chM l m i)) 264, cel b3 (m.map w32) 261, cel b2 (clB (List.replicate 64 0)) 264, cel b1 (l.map w32) 261, F]) (fun i => 64 - i) 0 (Nat.zero_le _) ⟨rfl, rfl, rfl, rfl, rfl, trivial⟩ (by rw [h0]; exact Ent.refl _) ?_
  intro i hi
  have hml := chM_len l m hi
  by_cases h : i < 64
  ·have g1 := map_get (l := m) (i := i / 4) (by omega)
   have g2 := map_get (l := l) (i := i / 4) (by omega)
   have hs := chM_set l m h
   unfold chb at hs
   generalize m.getD (i / 4) 0 = x at *
   generalize l.getD (i / 4) 0 = y at *
   refine XR ?_
   refine Xn ?_
   refine DH [1,3] [0,1,2,3,4,5,6,7,8,9] (.quiet 0 (.quiet 1 (.quiet 2 (.quiet 3 (.quiet 4 (.quiet 5 (.quiet 6 (.quiet 7 (.quiet 8 (.quiet 9 .done)))))))))) Tryz.mixed ?_
   refine Sq (Ent.re [1,3] rfl) rfl (Q_move rfl) ?_
   refine Xfk ?_
   refine Sq (Ent.re [1,3] rfl) rfl (Q_ld 0 rfl rfl rfl g1) ?_
   refine Sq (Ent.re [1,3] rfl) rfl (Q_move rfl) ?_
   refine Xfk ?_
   refine Sq (Ent.re [1,3] rfl) rfl (Q_ld 1 rfl rfl rfl g2) ?_
   refine Sq (Ent.re [1,3] rfl) rfl (Q_addW rfl rfl) ?_
   refine Sq (Ent.re [1,3] rfl) rfl (Q_assign rfl) ?_
   refine Xu ?_
   refine Xl ?_
   refine Xd ?_
   refine Lq ((Q_rem rfl rfl (by decide) (IntWalk.rem_in _ _ (by omega))).as (v' := .int .i64 ((i % 4 : Nat) : Int)) (congrArg (Value.int .i64) (by omega))) ?_
   refine Lq ((Q_mul rfl rfl (IntWalk.i64_in _ (by omega))).as (v' := .int .i64 ((8 * (i % 4) : Nat) : Int)) (congrArg (Value.int .i64) (by omega))) ?_
   refine Lq (Q_shrW (8 * (i % 4)) rfl rfl (by omega)) ?_
   refine Lq (Q_cvtW8 rfl) ?_
   refine Lq (Q_ia (o' := i) i rfl rfl rfl (by omega) (by omega)) ?_
   refine L_s rfl rfl (O_stS 0 rfl rfl rfl rfl rfl (by rw [clB_len, hml]; omega) ?_)
   refine Xas ?_
   rw [clB_set, hs]
   refine Xh ?_
   exact XdQ
  ·obtain rfl : i = 64 := by omega
   have he : chM l m 64 = chO l m 64 := by unfold chM; simp
   rw [he] at hml ⊢
   generalize chO l m 64 = A at *
   have hA2 : (clB A).length = 64 := by rw [clB_len, hml]
   refine Xbk ?_
   refine Lq (Q_ldS (sz := 64) (vs := clB A) 0 rfl rfl rfl (take_all hA2) hA2) ?_
   refine L_s rfl rfl (O_stV (o := 0) (sz := 64) 2 rfl rfl rfl hA2 (one8 A) (by rw [clB_len, List.length_replicate]; exact Nat.le_refl _) ?_)
   refine Xr ?_
   refine J_ret ?_
   rw [whole_put (a := clB (List.replicate 64 0)) (by rw [clB_len, List.length_replicate])]
   exact retQ_ret [_] [] (.cons (RV_cell 2 rfl rfl rfl hA2) .nil) ⟨rfl, rfl⟩ (Ent.re [4] rfl)
theorem chnext_ok (E : World) (l : List UInt32) (hl : l.length = 16) : Does Tryz.prog E 182 [.agg (l.map w32).toArray] [] fun v L => v = .agg ((chX l).map w32).toArray ∧ L = [] := by
 refine Does.of Tryz.func182 rfl Tryz.ntmps182 rfl rfl fun F => ?_
 refine J.norm ?_
 have hl2 : (l.map w32).length = 16 := by rw [List.length_map, hl]
 have g := map_get (l := l) (i := 12) (by omega)
 unfold chX
 refine Sr ?_
 refine L_o rfl rfl rfl (O_box rfl fun b1 => ?_)
 refine L_o rfl rfl rfl (O_allocL ((List.replicate 16 (0 : UInt32)).map w32) (by kernel_rfl) (fun b2 => ?_))
 refine Xr ?_
 refine Sr ?_
 refine Lq (Q_ia (o' := 12) 12 rfl rfl rfl (by decide) rfl) ?_
 refine Lq (Q_ld 1 rfl rfl rfl g) ?_
 refine Lq (Q_addW (b := 1) rfl rfl) ?_
 refine Lq (Q_ia (o' := 12) 12 rfl rfl rfl (by decide) rfl) ?_
 refine L_s rfl rfl (O_stS 1 rfl rfl rfl rfl rfl (by rw [hl2]; decide) ?_)
 refine XQ ?_
 rw [← List.map_set]
 have hl3 : ((l.set 12 (l.getD 12 0 + 1)).map w32).length = 16 := by rw [List.length_map, List.length_set, hl]
 change J _ _ _ _ _ _ [_, cel b1 ((l.set 12 (l.getD 12 0 + 1)).map w32) _, _]
 generalize l.set 12 (l.getD 12 0 + 1) = m at *
 refine Xh ?_
 refine Lq (Q_ldS (sz := 16) (vs := m.map w32) 1 rfl rfl rfl (take_all hl3) hl3) ?_
 refine L_s rfl rfl (O_stV (o := 0) (sz := 16) 0 rfl rfl rfl hl3 (one32 m) (by simp) ?_)
 refine Xr ?_
 refine J_ret ?_
 rw [whole_put (a := (List.replicate 16 (0 : UInt32)).map w32) (by simp)]
 exact retQ_ret [_] [] (.cons (RV_cell 0 rfl rfl rfl hl3) .nil) ⟨rfl, rfl⟩ (Ent.re [2] rfl)
theorem chblock_ok (E : World) (key nonce : List UInt8) (c : UInt32) (hk : key.length = 32) (hn : nonce.length = 12) : Does Tryz.prog E 137 [str key, str nonce, w32 c] [] fun v L => v = .tuple #[str (chB (chN key nonce c)), .int .i64 0] ∧ L = [] := by
 refine Does.of Tryz.func137 rfl Tryz.ntmps137 rfl rfl fun F => ?_
 refine J.norm ?_
 have hl := chN_len key nonce c
 have hB := chB_len (chN key nonce c)
 have hn := chnew_ok E key nonce c hk hn
 generalize chN key nonce c = l at *
 have hl2 : (l.map w32).length = 16 := by rw [List.length_map, hl]
 have hb := chbytes_ok E l hl
 generalize chB l = B at *
 have hB2 : (clB B).length = 64 := by rw [clB_len, hB]
 refine Sr ?_
 refine Xam ?_
 refine Xf ?_
 refine L_o rfl rfl rfl (O_callP (hn) rfl ?_)
 refine XK ?_
 refine L_o rfl rfl rfl (O_allocL ((List.replicate 16 (0 : UInt32)).map w32) (by kernel_rfl) (fun b8 => ?_))
 refine Xc ?_
 refine L_s rfl rfl (O_stV (o := 0) (sz := 16) 0 rfl rfl rfl hl2 (one32 l) (by simp) ?_)
 refine XaJ ?_
 refine J_seq ?_
 rw [whole_put (a := (List.replicate 16 (0 : UInt32)).map w32) (by simp)]
 refine Xe ?_
 refine XbP ?_
 refine Xy ?_
 refine Sr ?_
 refine Lq (Q_ldS (sz := 16) (vs := l.map w32) 0 rfl rfl rfl (take_all hl2) hl2) ?_
 refine L_o rfl rfl rfl (O_callP (hb) rfl ?_)
 refine L_o rfl rfl rfl (O_allocL (clB (List.replicate 64 0)) (by kernel_rfl) (fun b10 => ?_))
 refine Xc ?_
 refine L_s rfl rfl (O_stV (o := 0) (sz := 64) 0 rfl rfl rfl hB2 (one8 B) (by rw [clB_len, List.length_replicate]; exact Nat.le_refl _) ?_)
 refine XQ ?_
 rw [whole_put (a := clB (List.replicate 64 0)) (by rw [clB_len, List.length_replicate])]
 refine Xh ?_
 refine Lq (Q_slA 0 64 0 rfl rfl rfl (by decide) (by decide) rfl) ?_
 refine Lq (Q_b2s (β := tB) (S := ⟨some ⟨b10, 0, none⟩, 64, 64⟩) (m := B) tB_enc (fun w hs => by have := hs.rdC (τ := tB) (m := B) (c := 64) (o := 0) 0 [] rfl (by rw [clB_flat, List.append_nil]; rfl) (by omega); rw [hB] at this; exact this) rfl) ?_
 refine Xs ?_
 exact XdP
end Go.Proofs
