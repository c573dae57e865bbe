/- Part 44 of the texts below the row: Hm3, Hm4, Seal1, Seal2, Seal3, Seal4, Sl47, Seal5. -/
import Derived.Test.YtdggicfcpcjjlaaGreatDoorM1
import Derived.Test.YtdggicfcpcjjlaaGreatDoorM13
import Derived.Test.YtdggicfcpcjjlaaGreatDoorM27
import Derived.Test.YtdggicfcpcjjlaaGreatDoorM30
import Derived.Test.YtdggicfcpcjjlaaGreatDoorM34
import Derived.Test.YtdggicfcpcjjlaaGreatDoorM38
import Derived.Test.YtdggicfcpcjjlaaGreatDoorM43
/- HMAC: the sum. -/
set_option autoImplicit false
namespace Go.Proofs
open Go.SL
attribute [local irreducible] J JL QOp JOp seqQ blockQ loopQ retQ slc cel hex star pur stars Does RV Ent pAt scopeQ
theorem hsumL_ok (E : World) [hE : LaidE E] (x0 x1 x2 x3 x4 x5 x6 x7 y0 y1 y2 y3 y4 y5 y6 y7 : UInt32) (a1 a2 : Option Addr) (n1 c1 n2 c2 : Nat) (hS1 : (⟨a1, n1, c1⟩ : SV).no) (hS2 : (⟨a2, n2, c2⟩ : SV).no) (f : Bool) (T : SV) (l : List (List UInt8)) (hl : l.length ≤ 100000000) (hs : l.flatten.length ≤ 1000000000) :
 Does Tryz.prog E 125 [.agg ([w32 x0, w32 x1, w32 x2, w32 x3, w32 x4, w32 x5, w32 x6, w32 x7, .slice a1 n1 c1, .int .u64 64, w32 y0, w32 y1, w32 y2, w32 y3, w32 y4, w32 y5, w32 y6, w32 y7, .slice a2 n2 c2, .int .u64 64] : List Value).toArray, T.v] [slc tS f T l] fun v L => v = str (onS [y0, y1, y2, y3, y4, y5, y6, y7] (onS [x0, x1, x2, x3, x4, x5, x6, x7] l.flatten)) ∧ L = [slc tS f T l] := by
 refine Does.of Tryz.func125 rfl Tryz.ntmps125 rfl rfl fun F => ?_
 refine Xb ?_
 refine L_o rfl rfl rfl (O_box rfl fun b2 => ?_)
 refine Xn ?_
 refine J_flo [0] [0,1,2,3] [⟨4, 5, 205, [.int .u32 0, .int .u32 0, .int .u32 0, .int .u32 0, .int .u32 0, .int .u32 0, .int .u32 0, .int .u32 0, .slice none 0 0, .int .u64 0]⟩, ⟨5, 6, 205, [.int .u32 0, .int .u32 0, .int .u32 0, .int .u32 0, .int .u32 0, .int .u32 0, .int .u32 0, .int .u32 0, .slice none 0 0, .int .u64 0]⟩] [(false, 0), (false, 1), (false, 2), (false, 3)] (.loud 6 (.loud 7 .done)) Tryz.mixed (by kernel_rfl) (by kernel_rfl) (by repeat (first | exact retQ_noP | refine seqQ_noP ?_ | refine blockQ_noP ?_ | refine loopQ_noP ?_ | refine scopeQ_noP ?_ | (intro _ _ _ h; cases h.1))) (List.forall_mem_cons.2 ⟨AlOk.of rfl rfl rfl, (List.forall_mem_cons.2 ⟨AlOk.of rfl rfl rfl, (List.forall_mem_nil _)⟩)⟩) rfl ?_
 refine F_q (Ent.re [0] rfl) rfl (Q_fa0 rfl) rfl rfl rfl ?_
 refine Xdy ?_
 refine F_q (Ent.re [0] rfl) rfl (Q_fa0 rfl) rfl rfl rfl ?_
 refine Xdy ?_
 refine F_nil (Ent.re [0] rfl) (land2 fun b5 b6 => ?_)
 refine S_s rfl rfl rfl (O_stW 0 rfl rfl rfl rfl ⟨_, fun _ => ⟨Ent.reN [2] rfl, Ent.refl _⟩, ?_⟩)
 refine Xa ?_
 refine Xc4 ?_
 refine XaY ?_
 have hX : absD [x0, x1, x2, x3, x4, x5, x6, x7] l.flatten = absD [x0, x1, x2, x3, x4, x5, x6, x7] ([] ++ l.flatten) := rfl
 have c1 := shaW_ok E b5 [x0, x1, x2, x3, x4, x5, x6, x7] rfl ⟨a1, n1, c1⟩ 64 [] l.flatten (by rw [List.length_nil]; omega) (by omega)
 have hol := onS_len [x0, x1, x2, x3, x4, x5, x6, x7] l.flatten rfl
 have c2 := shaW_ok E b6 [y0, y1, y2, y3, y4, y5, y6, y7] rfl ⟨a2, n2, c2⟩ 64 [] (onS [x0, x1, x2, x3, x4, x5, x6, x7] l.flatten) (by rw [hol]; decide) (by rw [hol]; decide)
 rw [List.nil_append] at c1 c2
 refine J.ent (Ent.mk fun _ _ h => (h.lay_wt (β := tB) hS1 : Sat _ _ (_ :: _))) ?_
 refine J.ent (Ent.mk fun _ _ h => (h.lay_wt (β := tB) hS2 : Sat _ _ (_ :: _))) ?_
 refine Xe ?_
 refine L_o rfl rfl rfl (O_call [5] [0,1,2,3,4,6] (join_ok' E f T l hl hs) rfl rfl ?_)
 rintro _ _ ⟨rfl, rfl⟩
 refine Xc ?_
 refine L_o rfl rfl rfl (O_call [3,2] [0,1,4,5,6] c1 rfl rfl ?_)
 rintro _ _ ⟨rfl, S1, rfl⟩
 refine XQ ?_
 have d1 := shaSum_ok E b5 _ (absD_len [x0, x1, x2, x3, x4, x5, x6, x7] l.flatten rfl) S1 (64 + l.flatten.length) (absR l.flatten) (absR_len _) (by omega)
 refine Xh ?_
 refine L_o rfl rfl rfl (O_call [0,1] [2,3,4,5,6] d1 rfl rfl ?_)
 rintro _ _ ⟨rfl, rfl⟩
 refine Xc ?_
 refine L_o rfl rfl rfl (O_call [4,3] [0,1,2,5,6] c2 rfl rfl ?_)
 rintro _ _ ⟨rfl, S2, rfl⟩
 refine XQ ?_
 have d2 := shaSum_ok E b6 _ (absD_len [y0, y1, y2, y3, y4, y5, y6, y7] (onS [x0, x1, x2, x3, x4, x5, x6, x7] l.flatten) rfl) S2 (64 + (onS [x0, x1, x2, x3, x4, x5, x6, x7] l.flatten).length) (absR (onS [x0, x1, x2, x3, x4, x5, x6, x7] l.flatten)) (absR_len _) (by rw [hol]; decide)
 refine Xh ?_
 refine L_o rfl rfl rfl (O_call [0,1] [2,3,4,5,6] d2 rfl rfl ?_)
 rintro _ _ ⟨rfl, rfl⟩
 refine Xaa ?_
 exact retQ_ret _ [slc tS f T l] (.cons (RV_tmp rfl) .nil) ⟨rfl, rfl⟩ (Ent.re [4,6] rfl)
theorem hsum_ok (E : World) [hE : LaidE E] (key : List UInt8) (S1 S2 : SV) (hS1 : S1.no) (hS2 : S2.no) (f : Bool) (T : SV) (l : List (List UInt8)) (hl : l.length ≤ 100000000) (hs : l.flatten.length ≤ 1000000000) :
 Does Tryz.prog E 125 [.agg (keyL key S1 S2).toArray, T.v] [slc tS f T l] fun v L => v = str (hmS key l.flatten) ∧ L = [slc tS f T l] := by
 obtain ⟨x0, x1, x2, x3, x4, x5, x6, x7, hx⟩ := eightE (hmA_len key 54)
 obtain ⟨y0, y1, y2, y3, y4, y5, y6, y7, hy⟩ := eightE (hmA_len key 92)
 unfold keyL hmS
 rw [hx, hy]
 exact hsumL_ok E x0 x1 x2 x3 x4 x5 x6 x7 y0 y1 y2 y3 y4 y5 y6 y7 S1.a S2.a S1.n S1.c S2.n S2.c hS1 hS2 f T l hl hs
theorem hmac_ok (E : World) [hE : LaidE E] (key t : List UInt8) (hk : key.length ≤ 1000000000) (ht : t.length ≤ 1000000000) : Does Tryz.prog E 126 [str key, str t] [] fun v L => v = str (hmS key t) ∧ L = [] := by
 refine Does.of Tryz.func126 rfl Tryz.ntmps126 rfl rfl fun F => ?_
 refine J.norm ?_
 have e1 : [t].flatten = t := by simp
 refine Sr ?_
 refine Xx ?_
 refine L_o rfl rfl rfl (O_call [] [0] (hnew_ok E key hk) rfl rfl ?_)
 rintro _ _ ⟨S1, S2, hS1, hS2, rfl, rfl⟩
 refine XaO ?_
 refine L_o rfl rfl rfl (O_litP (τ := tS) (m := 1) (sz := 1) [t] rfl rfl rfl rfl rfl rfl (by decide) (fun V => ?_))
 refine Xc ?_
 refine L_o rfl rfl rfl (O_call [0] [1] (hsum_ok E key S1 S2 hS1 hS2 true V [t] (by simp) (by rw [e1]; exact ht)) rfl rfl ?_)
 (rw [e1]; rintro _ _ ⟨rfl, rfl⟩)
 refine Xc ?_
 exact Xcr
theorem hextract_ok (E : World) [hE : LaidE E] (key t : List UInt8) (hk : key.length ≤ 1000000000) (ht : t.length ≤ 1000000000) : Does Tryz.prog E 75 [str key, str t] [] fun v L => v = str (hmS key t) ∧ L = [] := by
 refine Does.of Tryz.func75 rfl Tryz.ntmps75 rfl rfl fun F => ?_
 refine Xb ?_
 refine XT ?_
 refine L_o rfl rfl rfl (O_callP (hmac_ok E key t hk ht) rfl ?_)
 refine Xq ?_
 exact retQ_ret _ [] (.cons (RV_tmp rfl) .nil) ⟨rfl, rfl⟩ (Ent.re [0] rfl)
end Go.Proofs
/- HMAC: a key stretched. -/
set_option autoImplicit false
namespace Go.Proofs
open Go.SL
def expK (key info : List UInt8) : Nat → List UInt8 × List UInt8
 | 0 => ([], [])
 | k + 1 => ((expK key info k).1 ++ hmS key ((expK key info k).2 ++ (info ++ [UInt8.ofNat (k + 1)])), hmS key ((expK key info k).2 ++ (info ++ [UInt8.ofNat (k + 1)])))
theorem expK_len (key info : List UInt8) : ∀ k, (expK key info k).1.length = 32 * k ∧ (expK key info k).2.length ≤ 32
 | 0 => ⟨rfl, Nat.zero_le _⟩
 | k + 1 => by
  have h := (expK_len key info k).1
  refine ⟨?_, Nat.le_of_eq (hmS_len _ _)⟩
  rw [expK, List.length_append, h, hmS_len]; omega
def expB (key info : List UInt8) (n : Nat) : List UInt8 := (expK key info ((n + 31) / 32)).1.take n
theorem expB_len (key info : List UInt8) (n : Nat) : (expB key info n).length = n := by
 unfold expB; rw [List.length_take, (expK_len key info _).1]; omega
theorem keyL_len (key : List UInt8) (S1 S2 : SV) : (keyL key S1 S2).length = 20 := by
 unfold keyL; rw [List.length_append, st_len (hmA_len _ _), st_len (hmA_len _ _)]
theorem stL_one (hs : List UInt32) (S : SV) (n : Nat) : ∀ v ∈ stL hs S n, v.oneCell' = true := by
 intro v hv
 rcases List.mem_append.1 hv with h | h
 ·obtain ⟨x, _, rfl⟩ := List.mem_map.1 h; rfl
 ·simp at h; rcases h with rfl | rfl <;> rfl
theorem keyL_one (key : List UInt8) (S1 S2 : SV) : ∀ v ∈ keyL key S1 S2, v.oneCell' = true := by
 intro v hv
 rcases List.mem_append.1 hv with h | h
 ·exact stL_one _ _ _ v h
 ·exact stL_one _ _ _ v h
attribute [local irreducible] J JL QOp JOp seqQ blockQ loopQ retQ slc cel hex star pur stars Does RV Ent pAt scopeQ
theorem hexpand_ok (E : World) [hE : LaidE E] (key info : List UInt8) (n : Nat) (hk : key.length ≤ 1000000000) (hi : info.length ≤ 100000000) (hn : n ≤ 8160) : Does Tryz.prog E 74 [str key, str info, .int .i64 (n : Int)] [] fun v L => v = .tuple #[str (expB key info n), .int .i64 0] ∧ L = [] := by
 refine Does.of Tryz.func74 rfl Tryz.ntmps74 rfl rfl fun F => ?_
 refine Xb ?_
 refine Xbm ?_
 refine Xb2 ?_
 refine XfC ?_
 refine Xag ?_
 refine L_o rfl rfl rfl (O_call [] [0] (hnew_ok E key hk) rfl rfl ?_)
 rintro _ _ ⟨S1, S2, hS1, hS2, rfl, rfl⟩
 refine Xc ?_
 refine L_o rfl rfl rfl (O_allocL (stL (List.replicate 8 0) SV.nil 0 ++ stL (List.replicate 8 0) SV.nil 0) (by kernel_rfl) (fun b8 => ?_))
 refine Xc ?_
 refine L_s rfl rfl (O_stV (o := 0) (sz := 20) 0 rfl rfl rfl (keyL_len key S1 S2) (keyL_one key S1 S2) (by decide) ?_)
 refine XQ ?_
 rw [whole_put (by rfl)]
 refine Xh ?_
 refine XC ?_
 refine Xn ?_
 refine Xa4 ?_
 refine XcF ?_
 refine J_loop (fun i : Nat × SV => i.1 ≤ (n + 31) / 32) (fun i => [(1, str info), (2, .int .i64 (n : Int)), (8, .pointer (some ⟨b8, 0, none⟩)), (9, i.2.v), (10, str (expK key info i.1).2), (11, .int .i64 ((i.1 + 1 : Nat) : Int))])
  (fun i => [slc tB true i.2 (expK key info i.1).1, cel b8 (keyL key S1 S2) 207, F]) (fun i => (n + 31) / 32 - i.1) (0, SV.nil) (Nat.zero_le _) ⟨rfl, rfl, rfl, rfl, rfl, rfl, trivial⟩ (Ent.refl _) ?_
 rintro ⟨k, B⟩ hk'
 simp only at hk'
 have hl := expK_len key info k
 by_cases h : 32 * k < n
 ·have ef : [(expK key info k).2, info, [UInt8.ofNat (k + 1)]].flatten = (expK key info k).2 ++ (info ++ [UInt8.ofNat (k + 1)]) := by simp
  have eS : expK key info (k + 1) = ((expK key info k).1 ++ hmS key ((expK key info k).2 ++ (info ++ [UInt8.ofNat (k + 1)])), hmS key ((expK key info k).2 ++ (info ++ [UInt8.ofNat (k + 1)]))) := rfl
  rw [← ef] at eS
  have hfl : [(expK key info k).2, info, [UInt8.ofNat (k + 1)]].flatten.length ≤ 1000000000 := by rw [ef]; simp; omega
  generalize hP1 : expK key info (k + 1) = P1 at *
  generalize hP0 : expK key info k = P0 at *
  have hm := hmS_len key [P0.2, info, [UInt8.ofNat (k + 1)]].flatten
  refine Xw ?_
  refine XO ?_
  refine Xd ?_
  refine Lq ((Q_lss rfl rfl).as (v' := .bool true) (congrArg Value.bool (decide_eq_true ((by show ((P0.1.length : Nat) : Int) < (n : Int); omega))))) ?_
  refine Ln ?_
  refine Xac ?_
  refine Sr ?_
  refine Lq (Q_ldS (vs := keyL key S1 S2) 1 rfl rfl rfl (take_all (keyL_len key S1 S2)) (keyL_len key S1 S2)) ?_
  refine X7 ?_
  refine Lq (Q_cvtN8 (a := k + 1) rfl) ?_
  refine L_o rfl rfl rfl (O_litP (τ := tB) (m := 1) (sz := 1) [UInt8.ofNat (k + 1)] rfl rfl rfl rfl rfl rfl (by decide) (fun V => ?_))
  refine Xc ?_
  refine Xa6 ?_
  refine L_o rfl rfl rfl (O_litP (τ := tS) (m := 3) (sz := 1) [P0.2, info, [UInt8.ofNat (k + 1)]] rfl rfl rfl rfl rfl rfl (by decide) (fun V2 => ?_))
  refine Xc ?_
  refine L_o rfl rfl rfl (O_call [0] [1,2,3,4] (hsum_ok E key S1 S2 hS1 hS2 true V2 _ (by simp) hfl) rfl rfl ?_)
  rintro _ _ ⟨rfl, rfl⟩
  refine Xc ?_
  refine Xbl ?_
  refine L_o rfl rfl rfl (O_appS tB_enc 2 rfl rfl rfl rfl rfl (by rw [hm]; omega) (by decide) (fun B' => ?_))
  refine Xc ?_
  refine Xj ?_
  refine XV ?_
  refine Xe ?_
  refine Lq ((Q_add rfl rfl (IntWalk.i64_in _ (by omega))).as (v' := .int .i64 ((k + 1 + 1 : Nat) : Int)) rfl) ?_
  refine Xj ?_
  refine loopQ_normal (k + 1, B') (by show k + 1 ≤ _; omega) (by show (n + 31) / 32 - (k + 1) < (n + 31) / 32 - k; omega) ?_ ?_
  ·simp only
   rw [hP1, eS]
   exact ⟨rfl, rfl, rfl, rfl, rfl, rfl, trivial⟩
  ·simp only
   rw [hP1, eS]
   exact Ent.re [2,3,4] rfl
 ·have hk2 : (n + 31) / 32 = k := by omega
  unfold expB
  rw [hk2]
  generalize expK key info k = P0 at *
  refine Xw ?_
  refine XO ?_
  refine Xd ?_
  refine Lq ((Q_lss rfl rfl).as (v' := .bool false) (congrArg Value.bool (decide_eq_false ((by show ¬ ((P0.1.length : Nat) : Int) < (n : Int); omega))))) ?_
  refine X2 ?_
  refine XaA ?_
  refine Xv ?_
  refine Lq (Q_slH n (fun w h => h.rd 0 rfl) rfl rfl rfl (by omega) rfl) ?_
  refine Lq (Q_b2s tB_enc (fun w h => (h.rd 0 rfl).sub 0 n (Nat.zero_le _) (by omega)) rfl) ?_
  refine Xs ?_
  exact XdP
end Go.Proofs
/- Seal: heads, nonces, keys. -/
set_option autoImplicit false
namespace Go.Proofs
open Go.SL
def mark4 : List UInt8 := [83,71,76,49]
def nonceB (i : Nat) : List UInt8 := List.replicate 8 0 ++ four i
theorem nonceB_len (i : Nat) : (nonceB i).length = 12 := rfl
def chunksN (n : Nat) : Nat := max 1 ((n + 255) / 256)
def headB (p : List UInt8) (n : Nat) : List UInt8 := mark4 ++ p ++ four n
def catE : List Pt → List UInt8
 | [] => []
 | A :: l => encO A.p ++ catE l
theorem catE_app : ∀ l m, catE (l ++ m) = catE l ++ catE m
 | [], m => rfl
 | A :: l, m => by rw [List.cons_append, catE, catE, catE_app l m, List.append_assoc]
theorem catE_len : ∀ l, (catE l).length ≤ 33 * l.length
 | [] => Nat.le_refl _
 | A :: l => by
  have h1 := encO_len A.p
  have h2 := catE_len l
  rw [catE, List.length_append, List.length_cons]; omega
def sand : List UInt8 := [115,97,110,100,103,108,97,115,115]
/-- The key of a file. -/
def ofK (A B C : Pt) : List UInt8 := expB (hmS [] (catE [A, B, C])) sand 32
theorem ofK_len (A B C : Pt) : (ofK A B C).length = 32 := expB_len _ _ _
attribute [local irreducible] J JL QOp JOp seqQ blockQ loopQ retQ slc cel hex star pur stars Does RV Ent pAt scopeQ JR seqR endR JLI DoesY
theorem sfour_ok (E : World) (n : Nat) (_ : n ≤ 1000000000) : Does Tryz.prog E 79 [.int .i64 (n : Int)] [] fun v L => v = str (four n) ∧ L = [] := by
 refine Does.of Tryz.func79 rfl Tryz.ntmps79 rfl rfl fun F => ?_
 refine XaL ?_
 refine Lq (Q_shrZ n 24 rfl rfl rfl rfl (by decide)) ?_
 refine Lq (Q_cvtN (n / 2 ^ 24) rfl rfl) ?_
 refine Xd ?_
 refine Lq (Q_shrZ n 16 rfl rfl rfl rfl (by decide)) ?_
 refine Lq (Q_cvtN (n / 2 ^ 16) rfl rfl) ?_
 refine Xd ?_
 refine Lq (Q_shrZ n 8 rfl rfl rfl rfl (by decide)) ?_
 refine Lq (Q_cvtN (n / 2 ^ 8) rfl rfl) ?_
 refine Xd ?_
 refine Lq (Q_cvtN n rfl rfl) ?_
 refine L_o rfl rfl rfl (O_litP (τ := tB) (m := 4) (sz := 1) (four n) rfl rfl rfl rfl rfl rfl (by decide) (fun S => ?_))
 refine Xc ?_
 refine Xa6 ?_
 exact XcL
theorem snonce_ok (E : World) (n : Nat) (hn : n ≤ 1000000000) : Does Tryz.prog E 35 [.int .i64 (n : Int)] [] fun v L => v = str (nonceB n) ∧ L = [] := by
 refine Does.of Tryz.func35 rfl Tryz.ntmps35 rfl rfl fun F => ?_
 refine XaL ?_
 refine L_o rfl rfl rfl (O_callP (sfour_ok E n hn) rfl ?_)
 refine Lq (Q_sadd (a := List.replicate 8 0) rfl rfl (by simp [four])) ?_
 exact XeN
theorem sbegin_ok (E : World) (p : List UInt8) (n : Nat) (hp : p.length ≤ 100000) (hn : n ≤ 1000000000) : Does Tryz.prog E 31 [str p, .int .i64 (n : Int)] [] fun v L => v = str (headB p n) ∧ L = [] := by
 refine Does.of Tryz.func31 rfl Tryz.ntmps31 rfl rfl fun F => ?_
 refine XaL ?_
 refine Lq (Q_sadd (a := mark4) rfl rfl (by simp [mark4]; omega)) ?_
 refine Xd ?_
 refine L_o rfl rfl rfl (O_callP (sfour_ok E n hn) rfl ?_)
 refine Lq (Q_sadd rfl rfl (by simp [four, mark4]; omega)) ?_
 exact XeN
theorem schunks_ok (E : World) (n : Nat) (hn : n ≤ 1000000000) : Does Tryz.prog E 33 [.int .i64 (n : Int)] [] fun v L => v = .int .i64 (chunksN n : Int) ∧ L = [] := by
 refine Does.of Tryz.func33 rfl Tryz.ntmps33 rfl rfl fun F => ?_
 refine XaL ?_
 refine XaM ?_
 refine XcA ?_
 refine Lq ((Q_quo rfl rfl (by decide) (IntWalk.i64_quo _ _ (by omega))).as (v' := .int .i64 (((n + 255) / 256 : Nat) : Int)) (congrArg (Value.int .i64) (by omega))) ?_
 refine Lq ((Q_max2 rfl rfl).as (v' := .int .i64 (chunksN n : Int)) (congrArg (Value.int .i64) (by unfold chunksN; omega))) ?_
 exact XeN
end Go.Proofs
/- Seal: the key of a file. -/
set_option autoImplicit false
namespace Go.Proofs
open Go.SL
theorem catE_ne (A : Pt) (P : Ec.Af Nt.pP) (h : A.p = some P) (l : List Pt) : catE (A :: l) ≠ [] := by
 rw [catE, h]
 intro h'
 have := congrArg List.length h'
 rw [List.length_append, show encO (some P) = encP P from rfl, encP_len] at this
 simp at this
theorem catE_mid (A B C : Pt) (P : Ec.Af Nt.pP) (h : B.p = some P) : catE [A, B, C] ≠ [] := by
 rw [catE]
 intro h'
 exact catE_ne B P h [C] (List.append_eq_nil_iff.1 h').2
abbrev fileV (k h : List UInt8) : Value := .agg #[str k, str h]
attribute [local irreducible] J JL QOp JOp seqQ blockQ loopQ retQ slc cel hex star pur stars Does RV Ent pAt scopeQ JR seqR endR JLI DoesY
theorem sof_ok (E : World) [hE : LaidE E] (p q r : Pw) (hp : p.ok) (hq : q.ok) (hr : r.ok) (Q : Ec.Af Nt.pP) (hQ : (own q).p = some Q) (h : List UInt8) : Does Tryz.prog E 29 [p.v, q.v, r.v, str h] [] fun v L => v = fileV (ofK (own p) (own q) (own r)) h ∧ L = [] := by
 refine Does.of Tryz.func29 rfl Tryz.ntmps29 rfl rfl fun F => ?_
 refine J.norm ?_
 have hne := catE_mid (own p) (own q) (own r) Q hQ
 unfold ofK
 have hok : ∀ i (hi : i < 3), ([p, q, r][i]).ok := fun i hi => by
  match i, hi with
  | 0, _ => exact hp
  | 1, _ => exact hq
  | 2, _ => exact hr
 have hcat : ∀ i (hi : i < 3), catE (([p, q, r].take (i + 1)).map own) = catE (([p, q, r].take i).map own) ++ encO (own ([p, q, r][i])).p := fun i hi => by
  rw [List.take_succ_eq_append_getElem hi, List.map_append, catE_app]
  simp [catE]
 have hcl : ∀ i, i ≤ 3 → (catE (([p, q, r].take i).map own)).length ≤ 99 := fun i hi => by
  have := catE_len (([p, q, r].take i).map own)
  rw [List.length_map, List.length_take] at this
  simp only [List.length_cons, List.length_nil] at this
  omega
 have hfin : catE (([p, q, r].take 3).map own) = catE [own p, own q, own r] := rfl
 have hlen : ([p, q, r] : List Pw).length = 3 := rfl
 refine Sr ?_
 refine L_o rfl rfl rfl (O_box rfl fun b4 => ?_)
 refine L_o rfl rfl rfl (O_box rfl fun b5 => ?_)
 refine L_o rfl rfl rfl (O_box rfl fun b6 => ?_)
 refine L_o rfl rfl rfl (O_alloc fun b8 => ?_)
 refine Xby ?_
 refine L_o rfl rfl rfl (O_alloc fun b9 => ?_)
 refine Xt ?_
 refine Sr ?_
 refine XaU ?_
 refine Xa5 ?_
 refine X0 ?_
 refine L_o rfl rfl rfl (O_litP (τ := tPw) (m := 3) (sz := 9) [p, q, r] rfl rfl rfl rfl rfl rfl (by decide) (fun T => ?_))
 refine Xc ?_
 refine Xba ?_
 refine XcF ?_
 refine J_loop (fun i : Nat × SV × Option Addr => i.1 ≤ 3 ∧ (i.2.2 = none ∨ i.2.2 = some ⟨b9, 0, none⟩)) (fun i => [(3, str h), (8, .pointer (some ⟨b8, 0, none⟩)), (9, .pointer (some ⟨b9, 0, none⟩)), (19, T.v), (20, .int .i64 3), (21, .int .i64 (i.1 : Int))]) (fun i => [cel b9 [.pointer i.2.2, i.2.1.v] 83, slc tB true i.2.1 (catE (([p, q, r].take i.1).map own)), slc tPw true T [p, q, r], cel b8 [str [], str []] 76, F]) (fun i => 3 - i.1) (0, SV.nil, none) ⟨Nat.zero_le _, .inl rfl⟩ ⟨rfl, rfl, rfl, rfl, rfl, rfl, trivial⟩ (Ent.re [2,0,1,3,7] rfl) ?_
 rintro ⟨i, S, q0⟩ ⟨hi, hq0⟩
 simp only at hi hq0
 have hci := hcl i hi
 by_cases h3 : i < 3
 ·have hoki := hok i h3
  have hcc := hcat i h3
  have hel := encO_len (own ([p, q, r][i])).p
  have hv : ((tPw.enc ([p, q, r][i])).drop 0).take 9 = ([p, q, r][i]).l := rfl
  generalize hpi : [p, q, r][i] = pi at *
  obtain ⟨x, y, no⟩ := pi
  have he := encode_ok E ⟨x, y, no⟩ hoki
  have hw := bwrite_ok E b9 q0 hq0 S (catE (([p, q, r].take i).map own)) (encO (own ⟨x, y, no⟩).p) (by omega)
  rw [← hcc] at hw
  refine Xaz ?_
  refine Lq (Q_ixAt 2 i rfl rfl rfl rfl h3 rfl) ?_
  refine Lq (Q_ldEA (τ := tPw) i 0 (vs := (⟨x, y, no⟩ : Pw).l) (fun w h => h.rd 2 rfl) rfl rfl rfl h3 (by decide) (by rw [hpi]; exact hv)) ?_
  refine L_o rfl rfl rfl (O_alloc fun b11 => ?_)
  refine XG ?_
  refine Xo ?_
  refine L_o rfl rfl rfl (O_callP (he) rfl ?_)
  refine XK ?_
  refine Xs ?_
  refine Xe ?_
  refine L_o rfl rfl rfl (O_call [1,2] [0,3,4,5] hw rfl rfl ?_)
  rintro _ _ ⟨S', rfl, rfl⟩
  refine X6 ?_
  refine XaS ?_
  exact loopQ_normal (i + 1, S', some ⟨b9, 0, none⟩) ⟨by show i + 1 ≤ 3; omega, .inr rfl⟩ (by show 3 - (i + 1) < 3 - i; omega) ⟨rfl, rfl, rfl, rfl, rfl, rfl, trivial⟩ (Ent.re [0,1,3,4,5] rfl)
 ·obtain rfl : i = 3 := by omega
  rw [hfin] at hci ⊢
  have hbs := bstring_ok E b9 q0 S (catE [own p, own q, own r]) hne
  have hx := hextract_ok E [] (catE [own p, own q, own r]) (by decide) (by omega)
  have hml := hmS_len [] (catE [own p, own q, own r])
  generalize catE [own p, own q, own r] = c at *
  have hxx := hexpand_ok E (hmS [] c) sand 32 (by rw [hml]; decide) (by decide) (by decide)
  refine Xbk ?_
  refine L_o rfl rfl rfl (O_call [0,1] [2,3,4] hbs rfl rfl ?_)
  rintro _ _ ⟨rfl, rfl⟩
  refine Xc ?_
  refine L_o rfl rfl rfl (O_callP (hx) rfl ?_)
  refine L_o rfl rfl rfl (O_callP (hxx) rfl ?_)
  refine XK ?_
  refine Xab ?_
  refine Xk ?_
  refine XaH ?_
  refine J_ret ?_
  exact retQ_ret [_] [] (.cons (RV_cell 1 rfl rfl rfl rfl) .nil) ⟨rfl, rfl⟩ (Ent.re [2] rfl)
end Go.Proofs
/- Seal: giving up. -/
set_option autoImplicit false
namespace Go.Proofs
open Go.SL
attribute [local irreducible] J JL QOp JOp seqQ blockQ loopQ retQ slc cel hex star pur stars Does RV Ent pAt scopeQ JR seqR endR JLI DoesY
theorem must_ok (E : World) (e : Int) : Does Tryz.prog E 27 [.bool true, .int .i64 e] [] fun v L => v = .tuple #[] ∧ L = [] := by
 refine Does.of Tryz.func27 rfl Tryz.ntmps27 rfl rfl fun F => ?_
 refine J.norm ?_
 refine Xg ?_
 refine XbO ?_
 refine XaI ?_
 exact retQ_normal [] [] .nil ⟨rfl, rfl⟩ (Ent.refl _)
theorem must_no (E : World) (e : Int) : DoesP Tryz.prog E 27 [.bool false, .int .i64 e] [] fun c L => c = [{ v := .iface 28 (.int .i64 e), recovered := false }] ∧ L = [] := by
 refine DoesP.of Tryz.func27 rfl Tryz.ntmps27 rfl fun F => ?_
 refine J.norm ?_
 refine Xg ?_
 refine Xcl ?_
 refine Xm ?_
 refine Xe ?_
 refine Lq (Q_makeInterface rfl rfl) ?_
 exact L_panic rfl ⟨[], ⟨rfl, rfl⟩, Ent.refl _⟩
end Go.Proofs
/- Seal: what catches a giving up. -/
set_option autoImplicit false
namespace Go.Proofs
open Go.SL
attribute [local irreducible] J JL QOp JOp seqQ blockQ loopQ retQ slc cel hex star pur stars Does RV Ent pAt scopeQ JR seqR endR JLI DoesY
theorem caught_ok (E : World) (e : Int) : Does Tryz.prog E 25 [.iface 28 (.int .i64 e)] [] fun v L => v = .int .i64 e ∧ L = [] := by
 refine Does.of Tryz.func25 rfl Tryz.ntmps25 rfl rfl fun F => ?_
 refine XaL ?_
 refine Lq (Q_tassert rfl) ?_
 refine XK ?_
 refine Xam ?_
 exact Xdh
theorem oclose_calm (E : World) (a b : Value) : DoesR Tryz.prog E 38 [a, b] [] .returning .returning fun _ L => L = [] := by
 refine DoesR.of .calm Tryz.func38 rfl Tryz.ntmps38 rfl rfl rfl rfl fun F => ?_
 refine J.norm ?_
 refine Xg ?_
 refine Lq (Q_ineN rfl) ?_
 refine XaI ?_
 exact retQ_normal [] [] .nil rfl (Ent.refl _)
theorem oclose_got (E : World) (b1 b2 : Nat) (s : List UInt8) (k e : Int) : DoesR Tryz.prog E 38 [.pointer (some ⟨b1, 0, none⟩), .pointer (some ⟨b2, 0, none⟩)] [cel b1 [str s] 9, cel b2 [.int .i64 k] 28] (.panicking [{ v := .iface 28 (.int .i64 e), recovered := false }]) (.panicking [{ v := .iface 28 (.int .i64 e), recovered := true }]) fun _ L => L = [cel b1 [str []] 9, cel b2 [.int .i64 e] 28] := by
 refine DoesR.of (.got _) Tryz.func38 rfl Tryz.ntmps38 rfl rfl rfl rfl fun F => ?_
 refine J.norm ?_
 refine Xg ?_
 refine Lq (Q_ineS rfl) ?_
 refine Xm ?_
 refine Xe ?_
 refine L_o rfl rfl rfl (O_callP (caught_ok E e) rfl ?_)
 refine L_s rfl rfl (O_st1 0 rfl rfl rfl rfl rfl ?_)
 refine Xc ?_
 refine Xcb ?_
 exact retQ_normal [] [_, _] .nil rfl (Ent.refl _)
end Go.Proofs
/- A function that defers a recovering call. -/
set_option autoImplicit false
namespace Go.SL
section
variable {P : Program} {E : World} {n : Nat} {ρ : Env} {L : List HProp}
/-- How such a function ends: in order, or caught. pre: what the closure turns, R: the rest. -/
def endQ (P : Program) (E : World) (n g : Nat) (us : List Value) (rs : List ResultVar) (K : Value → List HProp → Prop) (F : HProp) : Post
 | .normal, ρ, L | .ret, ρ, L => ∃ vs L', RVs P E n ρ L rs vs ∧ K (oneOf vs) L' ∧ Ent L (L' ++ [F])
 | .panic ch, ρ, L => ∃ v pre pre2 R, ch = [{ v, recovered := false }] ∧ Ent L (pre ++ R) ∧ DoesR P E g us pre (.panicking [{ v, recovered := false }]) (.panicking [{ v, recovered := true }]) (fun _ L' => L' = pre2) ∧
  ∃ vs L', RVs P E n ρ (pre2 ++ R) rs vs ∧ K (oneOf vs) L' ∧ Ent (pre2 ++ R) (L' ++ [F])
 | _, _, _ => False
theorem endQ_ret {g : Nat} {us : List Value} {rs : List ResultVar} {K : Value → List HProp → Prop} {F : HProp} (vs : List Value) (L' : List HProp) (h1 : RVs P E n ρ L rs vs) (h2 : K (oneOf vs) L') (h3 : Ent L (L' ++ [F])) : endQ P E n g us rs K F .ret ρ L := ⟨vs, L', h1, h2, h3⟩
theorem endQ_panic {g : Nat} {us : List Value} {rs : List ResultVar} {K : Value → List HProp → Prop} {F : HProp} {v : Value} {pre pre2 R : List HProp} (he : Ent L (pre ++ R)) (hd : DoesR P E g us pre (.panicking [{ v, recovered := false }]) (.panicking [{ v, recovered := true }]) (fun _ L' => L' = pre2)) (vs : List Value) (L' : List HProp) (h1 : RVs P E n ρ (pre2 ++ R) rs vs) (h2 : K (oneOf vs) L') (h3 : Ent (pre2 ++ R) (L' ++ [F])) : endQ P E n g us rs K F (.panic [{ v, recovered := false }]) ρ L := ⟨v, pre, pre2, R, rfl, he, hd, vs, L', h1, h2, h3⟩
theorem JWL_of {fn : Func} {g : Nat} {us : List Value} {rs : List ResultVar} {F : HProp} {K : Value → List HProp → Prop} {d : Code} [hf : HasFn P g] (hr : fn.results = rs.toArray)
 (hc : DoesR P E g us [] .returning .returning fun _ L' => L' = [])
 (h : JD P E n [⟨.fn (.func g) us.toArray, #[]⟩] d (endQ P E n g us rs K F) ρ L) :
 JWL P E n [⟨.fn (.func g) us.toArray, #[]⟩] d (bodyPostD P fn fun e w' => ∃ v L', e = .returned v ∧ K v L' ∧ Sat E w' (L' ++ [F])) ρ L := fun a w ha hs => by
 refine wp_mono (h a w ha hs) fun e a' w' ⟨ρ', L', b, hb, hQ, ha', hs'⟩ => ?_
 subst hb
 have ed : (late [⟨.fn (.func g) us.toArray, #[]⟩] b).defers = [⟨.fn (.func g) us.toArray, #[]⟩] := by simp [late, ha'.defers]
 have hret : (∃ vs L'', RVs P E n ρ' L' rs vs ∧ K (oneOf vs) L'' ∧ Ent L' (L'' ++ [F])) → Leaves P fn (late [⟨.fn (.func g) us.toArray, #[]⟩] b).tmps (fun e w' => ∃ v L', e = .returned v ∧ K v L' ∧ Sat E w' (L' ++ [F])) (late [⟨.fn (.func g) us.toArray, #[]⟩] b).defers .returning w' := fun ⟨vs, L'', h2, h3, h4⟩ => by
  rw [ed]
  have h1 : Sat E w' ([] ++ [stars L']) := Sat.fold (A := []) hs'
  refine leaves_cons (by simp) (by simp only [invoke, Array.empty_append]; exact run_callFunc hf _ _) ((hc (stars L') w' h1).mono ?_)
  rintro e u' w'' ⟨rfl, v1, L1, rfl, rfl, hs2⟩
  have hs3 : Sat E w'' L' := Sat.unfold (A := []) hs2
  exact ⟨_, h2.run fn hr b w'' ha' hs3, _, _, rfl, h3, h4 E w'' hs3⟩
 cases e with
 | normal => exact hret hQ
 | ret => exact hret hQ
 | panic ch =>
  obtain ⟨v, pre, pre2, R, rfl, he, hd, vs, L'', h2, h3, h4⟩ := hQ
  show Leaves P fn (late [⟨.fn (.func g) us.toArray, #[]⟩] b).tmps _ (late [⟨.fn (.func g) us.toArray, #[]⟩] b).defers (.panicking [{ v, recovered := false }]) w'
  rw [ed]
  have h1 := (he E w' hs').fold
  refine leaves_cons (by simp) (by simp only [invoke, Array.empty_append]; exact run_callFunc hf _ _) ((hd (stars R) w' h1).mono ?_)
  rintro e u' w'' ⟨rfl, v1, L1, rfl, rfl, hs2⟩
  have hs3 := hs2.unfold
  exact ⟨_, h2.run fn hr b w'' ha' hs3, _, _, rfl, h3, h4 E w'' hs3⟩
 | exit id => exact hQ.elim
 | goto l => exact hQ.elim
 | outgrown => exact hQ.elim
end
end Go.SL
/- Seal: secrets, lengths, prefixes. -/
set_option autoImplicit false
namespace Go.Proofs
open Go.SL
attribute [local irreducible] J JL QOp JOp seqQ blockQ loopQ retQ slc cel hex star pur stars Does RV Ent pAt scopeQ JR seqR endR JLI DoesY
theorem secret_ok (E : World) (a : W4) (ha : a.ok) (hq : a.n < Nt.pQ) (h0 : a.n ≠ 0) : Does Tryz.prog E 28 [a.v] [] fun v L => v = .bool true ∧ L = [] := by
 have hv := svalid_ok E a ha
 rw [decide_eq_true hq] at hv
 have hz := eqvN' ha z4_ok 9998
 rw [show decide (a.n = z4.n) = false from decide_eq_false h0] at hz
 obtain ⟨x, y, z, t⟩ := a
 refine Does.of Tryz.func28 rfl Tryz.ntmps28 rfl rfl fun F => ?_
 refine Xb ?_
 refine L_o rfl rfl rfl (O_box rfl fun b1 => ?_)
 refine Xi ?_
 refine Xo ?_
 refine L_o rfl rfl rfl (O_callP (hv) rfl ?_)
 refine Xd ?_
 refine X1 ?_
 refine Xk ?_
 refine Lq ((Q_gneq eqgN hz rfl rfl).as (v' := .bool true) rfl) ?_
 refine Xah ?_
 exact XcL
theorem slong_ok (E : World) (n : Nat) (hn : n ≤ 2048) : Does Tryz.prog E 85 [.int .i64 (n : Int)] [] fun v L => v = .int .i64 ((41 + n + 16 * chunksN n : Nat) : Int) ∧ L = [] := by
 refine Does.of Tryz.func85 rfl Tryz.ntmps85 rfl rfl fun F => ?_
 refine J.norm ?_
 have hc : chunksN n ≤ 100 := by unfold chunksN; omega
 refine Sr ?_
 refine XA ?_
 refine Xb2 ?_
 refine XfC ?_
 refine Xag ?_
 refine XaM ?_
 refine Xd ?_
 refine L_o rfl rfl rfl (O_callP (schunks_ok E n (by omega)) rfl ?_)
 refine Xep ?_
 refine Lq ((Q_add rfl rfl (IntWalk.i64_in _ (by omega))).as (v' := .int .i64 ((41 + n + 16 * chunksN n : Nat) : Int)) (congrArg (Value.int .i64) (by omega))) ?_
 exact Xdh
theorem prefix_ok (E : World) (a b : List UInt8) (h : b.length ≤ a.length) : Does Tryz.prog E 141 [str a, str b] [] fun v L => v = .bool (decide (a.take b.length = b)) ∧ L = [] := by
 refine Does.of Tryz.func141 rfl Tryz.ntmps141 rfl rfl fun F => ?_
 refine XaL ?_
 refine XN ?_
 refine Xd ?_
 refine XN ?_
 refine Lq ((Q_geq rfl rfl).as (v' := .bool true) (congrArg Value.bool (decide_eq_true (by omega)))) ?_
 refine X7 ?_
 refine XN ?_
 refine Lq (Q_ssH b.length rfl rfl rfl h) ?_
 refine Xd ?_
 refine Lq (Q_seql rfl rfl) ?_
 refine XaD ?_
 exact Xdh
theorem hasprefix_ok (E : World) (a b : List UInt8) (h : b.length ≤ a.length) : Does Tryz.prog E 83 [str a, str b] [] fun v L => v = .bool (decide (a.take b.length = b)) ∧ L = [] := by
 refine Does.of Tryz.func83 rfl Tryz.ntmps83 rfl rfl fun F => ?_
 refine Xb ?_
 refine XT ?_
 refine L_o rfl rfl rfl (O_callP (prefix_ok E a b h) rfl ?_)
 exact Xdh
end Go.Proofs
