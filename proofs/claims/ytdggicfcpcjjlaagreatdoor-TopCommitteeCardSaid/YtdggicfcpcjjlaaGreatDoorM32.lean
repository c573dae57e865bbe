/- Part 32 of the texts below the row: Gat2, Sl50, Gat3, Led1. -/
import Derived.Laws.Externs
import Derived.Lib.Bytealg
import Derived.Test.YtdggicfcpcjjlaaGreatDoorM1
import Derived.Test.YtdggicfcpcjjlaaGreatDoorM10
import Derived.Test.YtdggicfcpcjjlaaGreatDoorM13
import Derived.Test.YtdggicfcpcjjlaaGreatDoorM31
/- Shares that are gathered: one is put. -/
set_option autoImplicit false
namespace Go.Proofs
open Go.SL
theorem kpO_nil {p : SV × ShL} (h : p.2 = []) : kpO p = none := by unfold kpO; rw [h]
theorem kpO_some {p : SV × ShL} (h : p.2 ≠ []) : kpO p = some p.1 := by
 unfold kpO
 split
 ·rename_i e; exact absurd e h
 ·rfl
attribute [local irreducible] J JL QOp JOp seqQ blockQ loopQ retQ slc cel hex star pur stars Does RV Ent pAt scopeQ JR seqR endR JLI DoesY
section
variable (E : World)
theorem gof_ok (p t : Nat) (C K : SV) (k : List (SV × ShL)) (i : Nat) (hi : i < k.length) (hnil : (k[i]).2 = [] → (k[i]).1 = SV.nil) : Does Tryz.prog E 46 [.pointer (some ⟨p, 0, none⟩), .int .i64 (i : Int)] [cel p [.int .i64 (t : Int), C.v, K.v] 100, slc tAn true K (k.map kpO)] fun r L => r = (k[i]).1.v ∧ L = [cel p [.int .i64 (t : Int), C.v, K.v] 100, slc tAn true K (k.map kpO)] := by
 have hg : (k.map kpO)[i]'(by rw [List.length_map]; exact hi) = kpO k[i] := List.getElem_map ..
 refine Does.of Tryz.func46 rfl Tryz.ntmps46 rfl rfl fun F => ?_
 refine Xb ?_
 refine Xbj ?_
 by_cases hk : (k[i]).2 = []
 ·rw [hnil hk]
  rw [kpO_nil hk] at hg
  refine Xe ?_
  refine X9 ?_
  refine Lq (Q_ixAt 1 i rfl rfl rfl rfl (by rw [List.length_map]; exact hi) rfl) ?_
  refine Lq (Q_ldEAt 1 i 0 (v := .nilIface) rfl rfl rfl rfl (by rw [List.length_map]; exact hi) (by decide) (by rw [hg]; rfl)) ?_
  refine Lq (Q_tassertN rfl) ?_
  refine XK ?_
  refine Xam ?_
  refine Xy ?_
  refine Sr ?_
  exact Xde
 ·rw [kpO_some hk] at hg
  refine Xe ?_
  refine X9 ?_
  refine Lq (Q_ixAt 1 i rfl rfl rfl rfl (by rw [List.length_map]; exact hi) rfl) ?_
  refine Lq (Q_ldEAt 1 i 0 (v := .iface 67 (k[i]).1.v) rfl rfl rfl rfl (by rw [List.length_map]; exact hi) (by decide) (by rw [hg]; rfl)) ?_
  refine Lq (Q_tassertS rfl) ?_
  refine XK ?_
  refine Xam ?_
  refine Xm ?_
  refine Xg ?_
  refine Xap ?_
  exact XdC
theorem put1_ok (a a' : Nat) (v v' : W4) (h : a' ≠ a) (b5 : Nat) : Does Tryz.prog E 48 [shV a' v', .pointer (some ⟨b5, 0, none⟩)] [cel b5 (shL a v) 53] fun r L => r = .bool false ∧ L = [cel b5 (shL a v) 53] := by
 refine Does.of Tryz.func48 rfl Tryz.ntmps48 rfl rfl fun F => ?_
 refine Xb ?_
 refine L_o rfl rfl rfl (O_box rfl fun b2 => ?_)
 refine XC ?_
 refine XaF ?_
 refine XD ?_
 refine XE ?_
 refine Xem ?_
 refine Xq ?_
 exact retQ_ret _ [_] (.cons (RV_tmp rfl) .nil) ⟨rfl, rfl⟩ (Ent.re [1,2] rfl)
theorem shindex_ok (S : SV) (l : ShL) (hl : l.length ≤ 1000) (a : Nat) (v : W4) (b5 : Nat) (hno : ∀ p ∈ l, p.1 ≠ a) : Does Tryz.prog E 90 [S.v, .func (.func 48) #[] #[.pointer (some ⟨b5, 0, none⟩)]] [slc tSh true S l, cel b5 (shL a v) 53] fun r L => r = .int .i64 (-1) ∧ L = [slc tSh true S l, cel b5 (shL a v) 53] := by
 refine Does.of Tryz.func90 rfl Tryz.ntmps90 rfl rfl fun F => ?_
 refine XbB ?_
 refine Xba ?_
 refine J_loop (fun j : Nat => j ≤ l.length) (fun j => [(0, S.v), (1, .func (.func 48) #[] #[.pointer (some ⟨b5, 0, none⟩)]), (7, .int .i64 (l.length : Int)), (8, .int .i64 (j : Int))]) (fun _ => [slc tSh true S l, cel b5 (shL a v) 53, F]) (fun j => l.length - j) 0 (Nat.zero_le _) ⟨rfl, rfl, rfl, rfl, trivial⟩ (Ent.refl _) ?_
 intro j hj
 by_cases h : j < l.length
 ·have h1 := put1_ok E a (l[j]).1 v (l[j]).2 (hno _ (List.getElem_mem h)) b5
  refine XR ?_
  refine Xx ?_
  refine Xf ?_
  refine Lq (Q_ixAt 0 j rfl rfl rfl rfl h rfl) ?_
  refine Lq (Q_ldEAAt 0 j 0 (vs := shL (l[j]).1 (l[j]).2) rfl rfl rfl rfl h (Nat.le_refl 5) rfl) ?_
  refine L_o rfl rfl rfl (O_dyn (vs := [shV (l[j]).1 (l[j]).2]) (fs := #[]) (cs := #[.pointer (some ⟨b5, 0, none⟩)]) [1] [0,2] rfl rfl rfl h1 rfl ?_)
  rintro _ _ ⟨rfl, rfl⟩
  refine Xc ?_
  refine XaI ?_
  refine X8 ?_
  refine XbG ?_
  refine JL_nil ?_
  exact loopQ_normal (j + 1) (by omega) (by omega) ⟨rfl, rfl, rfl, rfl, trivial⟩ (Ent.re [1,0,2] rfl)
 ·refine Xae ?_
  refine Sr ?_
  exact Xde
theorem shcontains_ok (S : SV) (l : ShL) (hl : l.length ≤ 1000) (a : Nat) (v : W4) (b5 : Nat) (hno : ∀ p ∈ l, p.1 ≠ a) : Does Tryz.prog E 47 [S.v, .func (.func 48) #[] #[.pointer (some ⟨b5, 0, none⟩)]] [slc tSh true S l, cel b5 (shL a v) 53] fun r L => r = .bool false ∧ L = [slc tSh true S l, cel b5 (shL a v) 53] := by
 have h := shindex_ok E S l hl a v b5 hno
 refine Does.of Tryz.func47 rfl Tryz.ntmps47 rfl rfl fun F => ?_
 refine Xb ?_
 refine XT ?_
 refine L_o rfl rfl rfl (O_call [0,1] [2] h rfl rfl ?_)
 rintro _ _ ⟨rfl, rfl⟩
 refine Xc ?_
 refine Xcz ?_
 exact Xde
/-- A share is put: the dealer's points fit it, and it is not there. -/
theorem gput_raw (p : Nat) (g : Ga) (i : Nat) (hi : i < g.k.length) (hic : i < g.c.length) (_ : g.k.length ≤ 1000) (hnil : (g.k[i]).2 = [] → (g.k[i]).1 = SV.nil) (a : Nat) (v : W4) (hlt : (g.k[i]).2.length ≤ g.t) (ht : g.t ≤ 100) (hno : ∀ q ∈ (g.k[i]).2, q.1 ≠ a)
 (hver : ∀ S, Does Tryz.prog E 49 [S.v, shV a v] [slc tPw true S (g.c[i]).2] fun r L => r = .bool true ∧ L = [slc tPw true S (g.c[i]).2]) :
 Does Tryz.prog E 13 [.pointer (some ⟨p, 0, none⟩), .int .i64 (i : Int), shV a v] [cel p [.int .i64 (g.t : Int), g.C.v, g.K.v] 100, slc tPs true g.C (g.c.map (·.1)), stars (g.c.map rowP), slc tAn true g.K (g.k.map kpO), stars (g.k.map rowS)] fun r L => ∃ S' : SV, r = .bool true ∧ L = [cel p [.int .i64 (g.t : Int), g.C.v, g.K.v] 100, slc tPs true g.C (g.c.map (·.1)), stars (g.c.map rowP), slc tAn true g.K ((g.k.set i (S', (g.k[i]).2 ++ [(a, v)])).map kpO), stars ((g.k.set i (S', (g.k[i]).2 ++ [(a, v)])).map rowS)] := by
 have hgo := gof_ok E p g.t g.C g.K g.k i hi hnil
 have hgc : (g.c.map (·.1))[i]'(by rw [List.length_map]; exact hic) = (g.c[i]).1 := List.getElem_map ..
 have hinS := fun x L => Ent.row_in (L := L) rowS g.k i hi x
 have hbP : ∀ L, Ent (rowP g.c[i] :: stars ((g.c.eraseIdx i).map rowP) :: L) (stars (g.c.map rowP) :: L) := fun L => Ent.row_back rowP g.c i hic
 have hset : ∀ S' : SV, (g.k.set i (S', (g.k[i]).2 ++ [(a, v)])).map kpO = (g.k.map kpO).set i (some S') := fun S' => by
  rw [List.map_set, kpO_some (by intro h; exact absurd (List.append_eq_nil_iff.1 h).2 (by intro h; cases h))]
 have hkm : i < (g.k.map kpO).length := by rw [List.length_map]; exact hi
 generalize hSk : g.k[i] = sk at *
 generalize hcP : g.c[i] = cp at *
 obtain ⟨Sk, lk⟩ := sk
 obtain ⟨Sp, lp⟩ := cp
 dsimp only at hlt hno hver hset hnil hgc
 refine Does.of Tryz.func13 rfl Tryz.ntmps13 rfl rfl fun F => ?_
 refine Xb ?_
 refine L_o rfl rfl rfl (O_box rfl fun b5 => ?_)
 refine Xbj ?_
 have hco := shcontains_ok E Sk lk (by omega) a v b5 hno
 refine Xe ?_
 refine Lq (Q_peql rfl rfl) ?_
 refine Xf ?_
 refine XcV ?_
 refine Xp ?_
 refine X7 ?_
 refine XL ?_
 refine XE ?_
 refine Lq ((Q_lenAt 4 rfl rfl).as (v' := .int .i64 (g.k.length : Int)) (by rw [List.length_map])) ?_
 refine Lq ((Q_geq rfl rfl).as (v' := .bool false) (congrArg Value.bool (decide_eq_false ((by omega))))) ?_
 refine Xan ?_
 refine Xv ?_
 refine L_o rfl rfl rfl (O_call [1,4] [0,2,3,5,6] hgo rfl rfl ?_)
 rintro _ _ ⟨rfl, rfl⟩
 refine XaJ ?_
 refine J.ent ((Ent.re [5,0,1,2,3,4,6] rfl).trans (Ent.row_out rowS g.k i hi)) ?_
 rw [hSk]
 refine Xe ?_
 refine Lq (Q_makeFunc (xs := []) (ys := [.tmp 5]) (vs := []) (us := [.pointer (some ⟨b5, 0, none⟩)]) rfl rfl) ?_
 refine L_o rfl rfl rfl (O_call [0,4] [1,2,3,5,6,7] hco rfl rfl ?_)
 rintro _ _ ⟨rfl, rfl⟩
 refine XaJ ?_
 refine J_seq ?_
 refine J.ent ((Ent.re [6,0,1,2,3,4,5,7] rfl).trans (Ent.row_out rowP g.c i hic)) ?_
 rw [hcP]
 refine DH [2,3,5,7] [0,1,2,3,4,5,6,7,8,9,10,11,12,13,14,15,16,17,18,20,21] (.quiet 0 (.quiet 1 (.quiet 2 (.quiet 3 (.quiet 4 (.quiet 5 (.quiet 6 (.quiet 7 (.quiet 8 (.quiet 9 (.quiet 10 (.quiet 11 (.quiet 12 (.quiet 13 (.quiet 14 (.quiet 15 (.quiet 16 (.quiet 17 (.quiet 18 (.loud 19 (.quiet 20 (.quiet 21 .done)))))))))))))))))))))) Tryz.mixed ?_
 refine XcD ?_
 refine Sq (Ent.re [2,3,5,7] rfl) rfl (Q_lenAt 0 rfl rfl) ?_
 refine XcD ?_
 refine Sq (Ent.re [2,3,5,7] rfl) rfl (Q_nilCheck rfl) ?_
 refine Sq (Ent.re [2,3,5,7] rfl) rfl (Q_fa0 rfl) ?_
 refine Sq (Ent.re [2,3,5,7] rfl) rfl (Q_ld 2 rfl rfl rfl rfl) ?_
 refine Sq (Ent.re [2,3,5,7] rfl) rfl ((Q_gtr rfl rfl).as (v' := .bool false) (congrArg Value.bool (decide_eq_false ((by omega))))) ?_
 refine XcD ?_
 refine XcD ?_
 refine Sq (Ent.re [2,3,5,7] rfl) rfl (Q_pickF rfl rfl) ?_
 refine XcD ?_
 refine XcD ?_
 refine Sq (Ent.re [2,3,5,7] rfl) rfl (Q_nilCheck rfl) ?_
 refine Sq (Ent.re [2,3,5,7] rfl) rfl (Q_fa0 rfl) ?_
 refine Sq (Ent.re [2,3,5,7] rfl) rfl (Q_ld 2 rfl rfl rfl rfl) ?_
 refine XcD ?_
 refine Sq (Ent.re [2,3,5,7] rfl) rfl (Q_ixAt 3 i rfl rfl rfl rfl (by rw [List.length_map]; exact hic) rfl) ?_
 refine Sq (Ent.re [2,3,5,7] rfl) rfl (Q_ldEAt 3 i 0 (v := Sp.v) rfl rfl rfl rfl (by rw [List.length_map]; exact hic) (by decide) (by rw [hgc]; rfl)) ?_
 refine Sq (Ent.re [2,3,5,7] rfl) rfl (Q_ldA 1 rfl rfl rfl) ?_
 refine S_o rfl rfl rfl rfl (O_call [0] [1,2,3,4,5,6,7,8] (hver Sp) rfl rfl ?_)
 (rintro _ _ ⟨rfl, rfl⟩; refine ⟨_, fun _ => ⟨Ent.reN [2,3,5,7] rfl, Ent.refl _⟩, ?_⟩)
 refine Xa ?_
 refine Sq (Ent.re [2,3,5,7] rfl) rfl ((Q_not (b := true) rfl).as (v' := .bool false) rfl) ?_
 refine Sq (Ent.re [2,3,5,7] rfl) rfl (Q_pickF rfl rfl) ?_
 refine Xax ?_
 refine XS ?_
 refine J_seq ?_
 refine DH [3,5,6] [0,1,2,3,4,5,6,9,10] (.quiet 0 (.quiet 1 (.quiet 2 (.quiet 3 (.quiet 4 (.quiet 5 (.quiet 6 (.loud 7 (.loud 8 (.quiet 9 (.quiet 10 (.loud 11 .done)))))))))))) Tryz.mixed ?_
 refine Sq (Ent.re [3,5,6] rfl) rfl (Q_move rfl) ?_
 refine Sq (Ent.re [3,5,6] rfl) rfl (Q_nilCheck rfl) ?_
 refine Sq (Ent.re [3,5,6] rfl) rfl (Q_fa0 rfl) ?_
 refine Sq (Ent.re [3,5,6] rfl) rfl (Q_ld 1 rfl rfl rfl rfl) ?_
 refine Sq (Ent.re [3,5,6] rfl) rfl (Q_move rfl) ?_
 refine Sq (Ent.re [3,5,6] rfl) rfl (Q_move rfl) ?_
 refine Sq (Ent.re [3,5,6] rfl) rfl (Q_ldA 0 rfl rfl rfl) ?_
 refine S_o rfl rfl rfl rfl (O_litP (τ := tSh) (m := 1) (sz := 5) [(a, v)] rfl rfl rfl rfl rfl rfl (by decide) (fun U => ⟨_, fun _ => ⟨Ent.reN [4,6,7] rfl, Ent.refl _⟩, ?_⟩))
 refine Xa ?_
 refine S_o rfl rfl rfl rfl (O_app (τ := tSh) 3 rfl (fun w h => h.rd 0 rfl) rfl rfl rfl rfl (by simp only [List.length_singleton]; omega) (by decide) (fun S' => ⟨_, fun _ => ⟨Ent.reN [4,6,7] rfl, Ent.refl _⟩, ?_⟩))
 refine Xa ?_
 refine Sq (Ent.re [4,6,7] rfl) rfl (Q_makeInterface rfl rfl) ?_
 refine Sq (Ent.re [4,6,7] rfl) rfl (Q_ixAt 2 i rfl rfl rfl rfl hkm rfl) ?_
 refine S_s rfl rfl rfl (O_stE 7 i 0 (some S') rfl rfl rfl rfl rfl rfl (tAn.one (some S')) hkm (Nat.le_refl 1) (by rw [List.take_zero, List.nil_append, List.drop_of_length_le (by rw [tAn.len]; exact Nat.le_refl 1), List.append_nil]; rfl) ⟨[], free_no (by kernel_rfl), ?_⟩)
 refine Xbg ?_
 refine Xaf ?_
 refine retQ_ret _ [_, _, _, _, _] (.cons (RV_tmp rfl) .nil) ⟨S', rfl, rfl⟩ ?_
 rw [hset]
 exact (Ent.re [1,2,3,5,6,7,8,9] rfl).trans ((hbP _).trans ((Ent.re [1,2,0,3,4,5,6] rfl).trans ((hinS (S', lk ++ [(a, v)]) _).trans (Ent.re [2,4,1,3,0,5] rfl))))
end
end Go.Proofs
/- Contracts: with other chunks beside, and turned. -/
set_option autoImplicit false
namespace Go.SL
theorem Does.post {P : Program} {E : World} {f : Nat} {args : List Value} {pre pre' : List HProp} {K K2 : Value → List HProp → Prop} (h : Does P E f args pre K) (hp : ∀ F, Ent (pre' ++ [F]) (pre ++ [F])) (hk : ∀ v L, K v L → ∃ L2, K2 v L2 ∧ ∀ F, Ent (L ++ [F]) (L2 ++ [F])) : Does P E f args pre' K2 := fun F w hs =>
 (h F w (hp F E w hs)).mono fun _ _ ⟨v, L', he, hK, hs'⟩ =>
  have ⟨L2, h1, h2⟩ := hk v L' hK
  ⟨v, L2, he, h1, h2 F E _ hs'⟩
theorem Does.frame {P : Program} {E : World} {f : Nat} {args : List Value} {pre R : List HProp} {K : Value → List HProp → Prop} (h : Does P E f args pre K) : Does P E f args (pre ++ R) (fun v L => ∃ L', K v L' ∧ L = L' ++ R) := fun F w hs => by
 rw [List.append_assoc] at hs
 refine (h (stars (R ++ [F])) w hs.fold).mono ?_
 rintro e w' ⟨v, L', he, hk, hs'⟩
 refine ⟨v, L' ++ R, he, ⟨L', hk, rfl⟩, ?_⟩
 rw [List.append_assoc]
 exact hs'.unfold
end Go.SL
/- Shares that are gathered: begun; the key. -/
set_option autoImplicit false
namespace Go.Proofs
open Go.SL
def keyF (k : List (SV × ShL)) : Fq := k.foldl (fun s p => s + joinF p.2) 0
theorem keyF_take (k : List (SV × ShL)) (i : Nat) (h : i < k.length) : keyF (k.take (i + 1)) = keyF (k.take i) + joinF (k[i]).2 := foldl_take _ _ _ _ h
/-- Shares enough of each dealer. -/
structure Full (k : List (SV × ShL)) (t : Nat) : Prop where
 len : ∀ p ∈ k, t < p.2.length
 pl : ∀ p ∈ k, Plcs (p.2.map (·.1))
 ok : ∀ p ∈ k, ∀ q ∈ p.2, q.2.ok
/-- Put one behind. -/
def putG (g : Ga) (i : Nat) (S : SV) (x : Nat × W4) : Ga := { g with k := g.k.set i (S, (g.k.getD i (SV.nil, [])).2 ++ [x]) }
attribute [local irreducible] J JL QOp JOp seqQ blockQ loopQ retQ slc cel hex star pur stars Does RV Ent pAt scopeQ JR seqR endR JLI DoesY
section
variable (E : World)
theorem gkey_raw (p t : Nat) (_ : t ≤ 100) (C K : SV) (k : List (SV × ShL)) (hkl : k.length ≤ 1000) (hf : Full k t) :
 Does Tryz.prog E 14 [.pointer (some ⟨p, 0, none⟩)] [cel p [.int .i64 (t : Int), C.v, K.v] 100, slc tAn true K (k.map kpO), stars (k.map rowS)] fun r L => r = .tuple #[(ws (keyF k)).v, .int .i64 0] ∧ L = [cel p [.int .i64 (t : Int), C.v, K.v] 100, slc tAn true K (k.map kpO), stars (k.map rowS)] := by
 refine Does.of Tryz.func14 rfl Tryz.ntmps14 rfl rfl fun F => ?_
 refine Xb ?_
 refine L_o rfl rfl rfl (O_alloc fun b2 => ?_)
 refine XbI ?_
 refine Xy ?_
 refine XW ?_
 refine L_o rfl rfl rfl (O_alloc fun b4 => ?_)
 refine XB ?_
 refine Xg ?_
 refine XL ?_
 refine Lq (Q_ld 2 rfl rfl rfl rfl) ?_
 refine Lq ((Q_lenAt 3 rfl rfl).as (v' := .int .i64 (k.length : Int)) (by rw [List.length_map])) ?_
 refine XJ ?_
 refine J_loop (fun i : Nat => i ≤ k.length) (fun i => [(0, .pointer (some ⟨p, 0, none⟩)), (2, .pointer (some ⟨b2, 0, none⟩)), (4, .pointer (some ⟨b4, 0, none⟩)), (17, .int .i64 (k.length : Int)), (18, .int .i64 (i : Int))]) (fun i => [cel b4 (ws (keyF (k.take i))).l 24, cel b2 [u64 0, u64 0, u64 0, u64 0] 24, cel p [.int .i64 (t : Int), C.v, K.v] 100, slc tAn true K (k.map kpO), stars (k.map rowS), F]) (fun i => k.length - i) 0 (Nat.zero_le _) ⟨rfl, rfl, rfl, rfl, rfl, trivial⟩ (by rw [show keyF (k.take 0) = 0 from rfl, ws_0]; exact Ent.refl _) ?_
 intro i hi
 by_cases h : i < k.length
 ·have hm := List.getElem_mem h
  have hlen := hf.len _ hm
  have hpl := hf.pl _ hm
  have hkt := keyF_take k i h
  have hgo := gof_ok E p t C K k i h (fun e => by rw [e] at hlen; cases hlen)
  have hjo := join_ok E true (k[i]).1 (k[i]).2 (hf.ok _ hm) hpl
  have ha := saddF E (keyF (k.take i)) (joinF (k[i]).2)
  rw [← hkt] at ha
  have hl1000 := hpl.len
  rw [List.length_map] at hl1000
  have hback : ∀ L, Ent (rowS k[i] :: stars ((k.eraseIdx i).map rowS) :: L) (stars (k.map rowS) :: L) := fun L => Ent.row_back rowS k i h
  refine XR ?_
  refine XT ?_
  refine L_o rfl rfl rfl (O_call [2,3] [0,1,4,5] hgo rfl rfl ?_)
  rintro _ _ ⟨rfl, rfl⟩
  refine Xbf ?_
  refine Lq (Q_len (τ := tSh) (fun w h' => h'.rdR 4 rfl i h) rfl) ?_
  refine Xd ?_
  refine Xaj ?_
  refine Lq ((Q_leq rfl rfl).as (v' := .bool false) (congrArg Value.bool (decide_eq_false ((by omega))))) ?_
  refine Xay ?_
  refine J.ent ((Ent.re [4,0,1,2,3,5] rfl).trans (Ent.row_out rowS k i h)) ?_
  refine Xe ?_
  refine L_o rfl rfl rfl (O_call [0] [1,2,3,4,5,6] hjo rfl rfl ?_)
  rintro _ _ ⟨rfl, rfl⟩
  refine XH ?_
  refine L_o rfl rfl rfl (O_alloc fun b7 => ?_)
  refine Xz ?_
  refine Xi ?_
  refine Xh ?_
  refine Lq (Q_ldA 5 rfl rfl rfl) ?_
  refine X1 ?_
  refine L_o rfl rfl rfl (O_callP (ha) rfl ?_)
  refine Xdx ?_
  refine X6 ?_
  refine XaS ?_
  exact loopQ_normal (i + 1) (by omega) (by omega) ⟨rfl, rfl, rfl, rfl, rfl, trivial⟩ ((Ent.re [1,2,3,4,5,6,7] rfl).trans ((hback _).trans (Ent.re [3,4,1,2,0,5] rfl)))
 ·obtain rfl : i = k.length := by omega
  rw [List.take_length]
  refine Xae ?_
  refine Xo ?_
  refine Xcx ?_
  refine Xaa ?_
  exact retQ_ret _ [_, _, _] (.cons (RV_cell 1 rfl rfl rfl rfl) (.cons (RV_tmp rfl) .nil)) ⟨rfl, rfl⟩ (Ent.re [2,3,4,5] rfl)
theorem gkey_ok (p : Nat) (g : Ga) (ht : g.t ≤ 100) (hkl : g.k.length ≤ 1000) (hf : Full g.k g.t) : Does Tryz.prog E 14 [.pointer (some ⟨p, 0, none⟩)] [gaA p g] fun r L => r = .tuple #[(ws (keyF g.k)).v, .int .i64 0] ∧ L = [gaA p g] := by
 refine Does.post (Does.frame (R := [slc tPs true g.C (g.c.map (·.1)), stars (g.c.map rowP)]) (gkey_raw E p g.t ht g.C g.K g.k hkl hf)) (fun F => (Ent.ga_out p g).trans (Ent.pick [0,3,4,1,2,5] _ rfl)) ?_
 rintro r _ ⟨_, ⟨hv, rfl⟩, rfl⟩
 exact ⟨_, ⟨hv, rfl⟩, fun F => (Ent.pick [0,3,4,1,2,5] _ rfl).trans (Ent.ga_in p g)⟩
theorem gput_ok (p : Nat) (g : Ga) (i : Nat) (hi : i < g.k.length) (hic : i < g.c.length) (hkl : g.k.length ≤ 1000) (hnil : (g.k[i]).2 = [] → (g.k[i]).1 = SV.nil) (a : Nat) (v : W4) (hlt : (g.k[i]).2.length ≤ g.t) (ht : g.t ≤ 100) (hno : ∀ q ∈ (g.k[i]).2, q.1 ≠ a)
 (hver : ∀ S, Does Tryz.prog E 49 [S.v, shV a v] [slc tPw true S (g.c[i]).2] fun r L => r = .bool true ∧ L = [slc tPw true S (g.c[i]).2]) :
 Does Tryz.prog E 13 [.pointer (some ⟨p, 0, none⟩), .int .i64 (i : Int), shV a v] [gaA p g] fun r L => ∃ S' : SV, r = .bool true ∧ L = [gaA p (putG g i S' (a, v))] := by
 refine Does.post (gput_raw E p g i hi hic hkl hnil a v hlt ht hno hver) (fun F => Ent.ga_out p g) ?_
 rintro r _ ⟨S', hv, rfl⟩
 have e : putG g i S' (a, v) = { g with k := g.k.set i (S', (g.k[i]).2 ++ [(a, v)]) } := by unfold putG; rw [getD_eq _ _ _ hi]
 rw [← show (putG g i S' (a, v)).k = g.k.set i (S', (g.k[i]).2 ++ [(a, v)]) by rw [e]]
 exact ⟨_, ⟨S', hv, rfl⟩, fun F => Ent.ga_in p (putG g i S' (a, v))⟩
theorem gnew_ok (t : Nat) (ht : t ≤ 2) (S : SV) (hs : List SV) (rs : List (List Pw)) (X : HProp) (hl : rs.length = hs.length) (hX : ∀ w L, Sat E w (X :: L) → ∀ k (h : k < hs.length) (h' : k < rs.length), Rd tPw w hs[k] rs[k]) (hdeg : ∀ r ∈ rs, r.length = t + 1) (h1 : 1 ≤ hs.length) (h1000 : hs.length ≤ 1000) :
 Does Tryz.prog E 11 [.int .i64 (t : Int), S.v] [slc tPs true S hs, X] fun r L => ∃ (p : Nat) (g : Ga), r = .pointer (some ⟨p, 0, none⟩) ∧ g.t = t ∧ g.c.map (·.2) = rs ∧ g.k = List.replicate rs.length (SV.nil, []) ∧ L = [gaA p g, slc tPs true S hs, X] := by
 refine Does.of Tryz.func11 rfl Tryz.ntmps11 rfl rfl fun F => ?_
 refine XbB ?_
 refine XcV ?_
 refine Xf ?_
 refine XbE ?_
 refine Xf ?_
 refine XO ?_
 refine Xem ?_
 refine Xan ?_
 refine Xv ?_
 refine XO ?_
 refine L_o rfl rfl rfl (O_mk (τ := tAn) hs.length none rfl rfl rfl rfl rfl rfl (by omega) (by decide) (fun K => ?_))
 refine Xc ?_
 refine Xk ?_
 refine L_o rfl rfl rfl (O_box rfl fun b24 => ?_)
 refine XA ?_
 refine XbN ?_
 refine XJ ?_
 refine J.ent (Ent.stars_nil.trans (Ent.mk fun _ _ h => (h.lay_nil tPs true : Sat _ _ (slc tPs true SV.nil [] :: _)))) ?_
 refine J_loop (fun i : Nat × SV × List (SV × List Pw) => i.1 ≤ hs.length ∧ i.2.2.map (·.2) = rs.take i.1) (fun i => [(0, .int .i64 (t : Int)), (5, .pointer (some ⟨b24, 0, none⟩)), (25, S.v), (26, .int .i64 (hs.length : Int)), (27, .int .i64 (i.1 : Int))]) (fun i => [cel b24 [.int .i64 (t : Int), i.2.1.v, K.v] 100, slc tPs true i.2.1 (i.2.2.map (·.1)), stars (i.2.2.map rowP), slc tAn true K (List.replicate hs.length none), slc tPs true S hs, X, F]) (fun i => hs.length - i.1) (0, SV.nil, []) ⟨Nat.zero_le _, rfl⟩ ⟨rfl, rfl, rfl, rfl, rfl, trivial⟩ (Ent.re [2,0,1,3,4,5,6] rfl) ?_
 rintro ⟨i, C, rows⟩ ⟨hi, hr⟩
 dsimp only at hi hr ⊢
 by_cases h : i < hs.length
 ·have hir : i < rs.length := by omega
  have hrl := congrArg List.length hr
  rw [List.length_map, List.length_take] at hrl
  have hdi := hdeg _ (List.getElem_mem hir)
  have hcl := pwclone E X hs[i] rs[i] (fun w L hw => hX w L hw i h hir) (by omega)
  refine Xaz ?_
  refine Lq (Q_ixAt 4 i rfl rfl rfl rfl h rfl) ?_
  refine Lq (Q_ldEAt 4 i 0 (v := (hs[i]).v) rfl rfl rfl rfl h (by decide) rfl) ?_
  refine XA ?_
  refine Lq ((Q_len (τ := tPw) (fun w h' => hX w [] (h'.one 5 rfl) i h hir) rfl).as (v' := .int .i64 ((t + 1 : Nat) : Int)) (by rw [hdi])) ?_
  refine Xd ?_
  refine XaM ?_
  refine XcC ?_
  refine Xy ?_
  refine DH [0] [0,1,2,3,4,5,9,10] (.quiet 0 (.quiet 1 (.quiet 2 (.quiet 3 (.quiet 4 (.quiet 5 (.loud 6 (.loud 7 (.loud 8 (.quiet 9 (.quiet 10 (.loud 11 .done)))))))))))) Tryz.mixed ?_
  refine Xak ?_
  refine XaX ?_
  refine XU ?_
  refine S_o rfl rfl rfl rfl (O_call [5] [0,1,2,3,4,6] hcl rfl rfl ?_)
  (rintro _ _ ⟨V, rfl, rfl⟩; refine ⟨_, fun _ => ⟨Ent.reN [2] rfl, Ent.refl _⟩, ?_⟩)
  refine Xa ?_
  refine S_o rfl rfl rfl rfl (O_litP (τ := tPs) (m := 1) (sz := 1) [V] rfl rfl rfl rfl rfl rfl (by decide) (fun U => ⟨_, fun _ => ⟨Ent.reN [3] rfl, Ent.refl _⟩, ?_⟩))
  refine Xa ?_
  refine S_o rfl rfl rfl rfl (O_app (τ := tPs) 4 rfl (fun w h => h.rd 0 rfl) rfl rfl rfl rfl (by simp only [List.length_map, List.length_singleton]; omega) (by decide) (fun C' => ⟨_, fun _ => ⟨Ent.reN [3] rfl, Ent.refl _⟩, ?_⟩))
  refine Xa ?_
  refine Sq (Ent.re [3] rfl) rfl (Q_nilCheck rfl) ?_
  refine Sq (Ent.re [3] rfl) rfl (Q_fa0 rfl) ?_
  refine S_s rfl rfl rfl (O_st1 3 rfl rfl rfl rfl rfl ⟨[], free_no (by kernel_rfl), ?_⟩)
  refine Xaq ?_
  refine XaS ?_
  refine loopQ_normal (i + 1, C', rows ++ [(V, rs[i])]) ⟨by show i + 1 ≤ _; omega, by show (rows ++ [(V, rs[i])]).map (·.2) = rs.take (i + 1); rw [List.map_append, hr, List.take_succ_eq_append_getElem hir]; rfl⟩ (by show _ - (i + 1) < _ - i; omega) ⟨rfl, rfl, rfl, rfl, rfl, trivial⟩ ?_
  show Ent _ [_, slc tPs true C' ((rows ++ [(V, rs[i])]).map (·.1)), stars ((rows ++ [(V, rs[i])]).map rowP), _, _, _, _]
  rw [show (rows ++ [(V, rs[i])]).map (·.1) = rows.map (·.1) ++ [V] by rw [List.map_append]; rfl]
  exact (Ent.re [2,5,3,4,6,7,1,8] rfl).trans ((Ent.last_in rowP rows (V, rs[i])).trans (Ent.re [1,2,0,3,4,5,6] rfl))
 ·obtain rfl : i = hs.length := by omega
  rw [← hl, List.take_length] at hr
  refine Xae ?_
  refine Xg ?_
  refine Xq ?_
  refine retQ_ret _ [gaA b24 ⟨t, C, rows, K, List.replicate rs.length (SV.nil, [])⟩, _, _] (.cons (RV_tmp rfl) .nil) ⟨b24, _, rfl, rfl, hr, rfl, rfl⟩ ?_
  refine ((Ent.stars_triv (R := (List.replicate rs.length ((SV.nil, []) : SV × ShL)).map rowS) fun i c hi E g => by
   rw [List.map_replicate] at hi
   have := List.mem_replicate.1 (List.mem_of_getElem? hi)
   rw [this.2]; exact own_nil tSh true E g).trans (Ent.re [1,2,3,4,0,5,6,7] rfl)).trans ?_
  have e : List.replicate hs.length (none : Option SV) = (List.replicate rs.length ((SV.nil, []) : SV × ShL)).map kpO := by rw [List.map_replicate, hl]; rfl
  rw [e]
  exact Ent.ga_in b24 ⟨t, C, rows, K, List.replicate rs.length (SV.nil, [])⟩
end
end Go.Proofs
/- The catalogue: how it lies; copied; a file found. -/
set_option autoImplicit false
namespace Go.SL
def CmpFn (P : Program) (f : Nat) : Prop := ∃ fn : Func, P.funcs[f]? = some fn ∧ (fn.name == "runtime.NumGoroutine") = false ∧ fn.body.isNone = true ∧ Extern.findNext fn = none ∧ Extern.find fn = some Extern.BytealgCompare.compare
theorem O_cmp {P : Program} {E : World} {n : Nat} {ρ : Env} {L : List HProp} {dst : Option Tmp} {ty : TypeId} {pos : String} {after : Array Edge} {g : Option (Nat × Bool)} {K : Value → List HProp → Prop} {f : Nat} {x y : Operand} {ts : Array TypeId} {a b : List UInt8} (hf : CmpFn P f) (hx : ρ.ev x = some (str a)) (hy : ρ.ev y = some (str b)) (hK : K (.int .i64 (Lib.compareBytes a b)) L) :
 JOp P E n ⟨dst, .call ⟨.value (.func f), #[x, y], ts⟩, ty, pos, after, g⟩ K ρ L := fun c w ha hs next Q hn => by
 obtain ⟨fn, h1, h2, h3, h4, h5⟩ := hf
 unfold Oper.wp
 simp only [execOp, resolve]
 have e1 : (Array.map c.eval #[x, y]) = #[str a, str b] := by simp [ha.ev hx, ha.ev hy]
 have e2 : c.eval (.func f) = .func (.func f) #[] #[] := rfl
 simp only [e1, e2, Deferred.ofValue, run_bind_pure, invoke, Array.empty_append, Array.append_empty]
 rw [run_callFunc_extern h1 h2 h3 h4 h5, Lib.run_compareString]
 simp only [Result.andThen_ok]
 exact hn _ _ w hK hs
end Go.SL
namespace Go.Proofs
open Go.SL
/-- A file of the catalogue. -/
structure Fl where
 e : Nat
 name : List UInt8
 body : List UInt8
abbrev flL (f : Fl) : List Value := [.int .i64 (f.e : Int), str f.name, str f.body]
def tFl : Ty Fl := ⟨135, 3, flL, fun _ => rfl, by decide, fun a v hv => by simp [flL] at hv; rcases hv with rfl | rfl | rfl <;> rfl⟩
instance : TyI Tryz.prog tFl.e 3 (.agg #[.int .i64 0, .string ⟨#[]⟩, .string ⟨#[]⟩]) 40 := inferInstanceAs (TyI Tryz.prog 135 3 (.agg #[.int .i64 0, .string ⟨#[]⟩, .string ⟨#[]⟩]) 40)
instance : TyU Tryz.prog 170 (.slice tFl.e) := inferInstanceAs (TyU Tryz.prog 170 (.slice 135))
/-- A catalogue of one epoch's key. -/
abbrev lgL (k : List UInt8) (S : SV) : List Value := [str k, str [], str [], str [], str [], str [], str [], str [], str [], str [], str [], str [], str [], str [], str [], str [], str [], str [], str [], str [], str [], str [], str [], str [], str [], str [], str [], str [], str [], str [], str [], str [], str [], str [], str [], str [], str [], str [], str [], str [], str [], str [], str [], str [], str [], str [], str [], str [], str [], str [], str [], str [], str [], str [], str [], str [], str [], str [], str [], str [], str [], str [], str [], str [], S.v, .int .i64 (-1)]
theorem cmp_self : ∀ a : List UInt8, Lib.compareBytes a a = 0
 | [] => rfl
 | a :: l => by
  unfold Lib.compareBytes
  rw [if_neg (UInt8.lt_irrefl a), if_neg (UInt8.lt_irrefl a)]
  exact cmp_self l
attribute [local irreducible] J JL QOp JOp seqQ blockQ loopQ retQ slc cel hex star pur stars Does RV Ent pAt scopeQ JR seqR endR JLI DoesY
theorem flcloneG (E : World) (C : HProp) (U : SV) (m : List Fl) (hC : ∀ w L, Sat E w (C :: L) → Rd tFl w U m) (hl : m.length ≤ 100000000) : Does Tryz.prog E 106 [U.v] [C] fun v L => ∃ V : SV, v = V.v ∧ L = [C, slc tFl true V m] := by
 refine Does.of Tryz.func106 rfl Tryz.ntmps106 rfl rfl fun F => ?_
 refine J.norm ?_
 refine J.have (p := U.n = m.length ∧ U.n ≤ U.c ∧ ((U.a = none ∧ U.c = 0) ∨ ∃ a, U.a = some a)) (fun w hs => ⟨(hC w _ hs).1, (hC w _ hs).2.1, (hC w _ hs).2.2.imp id fun ⟨a, h, _⟩ => ⟨a, h⟩⟩) fun ⟨hn, hc, ha⟩ => ?_
 refine Sr ?_
 refine Xbj ?_
 cases h : U.a with
 | none =>
  have h0 : m = [] := List.eq_nil_of_length_eq_zero (by
   rcases ha with ⟨_, h0⟩ | ⟨a, h1⟩
   ·omega
   ·rw [h] at h1; cases h1)
  subst h0
  refine Xe ?_
  refine Lq ((Q_slnil2 (S := U) rfl rfl).as (v' := .bool true) (by rw [h]; rfl)) ?_
  refine Xm ?_
  refine XbK ?_
  refine retQ_ret _ [C, slc tFl true SV.nil []] (.cons (RV_tmp rfl) .nil) ⟨SV.nil, rfl, rfl⟩ ?_
  exact Xf6
 | some a =>
  refine Xe ?_
  refine Lq ((Q_slnil2 (S := U) rfl rfl).as (v' := .bool false) (by rw [h]; rfl)) ?_
  refine Xy ?_
  refine Sr ?_
  refine L_o rfl rfl rfl (O_litP (τ := tFl) (m := 0) (sz := 3) [] rfl rfl rfl rfl rfl rfl (by decide) (fun V => ?_))
  refine XaO ?_
  refine L_o rfl rfl rfl (O_app (τ := tFl) 0 rfl (fun w h => hC w _ ((h.pick [1] rfl) : Sat E w (pick [1] _))) rfl rfl rfl rfl (by simp; omega) (by decide) (fun W => ?_))
  refine Xaa ?_
  exact retQ_ret _ [C, slc tFl true W m] (.cons (RV_tmp rfl) .nil) ⟨W, rfl, rfl⟩ (Ent.re [1,0,2] rfl)
theorem cmps_ok (E : World) (a b : List UInt8) : Does Tryz.prog E 195 [str a, str b] [] fun v L => v = .int .i64 (Lib.compareBytes a b) ∧ L = [] := by
 have hf : CmpFn Tryz.prog 205 := ⟨_, Tryz.func205, by kernel_rfl, by kernel_rfl, by kernel_rfl, by kernel_rfl⟩
 refine Does.of Tryz.func195 rfl Tryz.ntmps195 rfl rfl fun F => ?_
 refine Xb ?_
 refine XT ?_
 refine L_o rfl rfl rfl (O_cmp hf rfl rfl ?_)
 refine Xaa ?_
 exact XdE
theorem compare_ok (E : World) (a b : List UInt8) : Does Tryz.prog E 164 [str a, str b] [] fun v L => v = .int .i64 (Lib.compareBytes a b) ∧ L = [] := by
 refine Does.of Tryz.func164 rfl Tryz.ntmps164 rfl rfl fun F => ?_
 refine Xb ?_
 refine XT ?_
 refine L_o rfl rfl rfl (O_call [] [0] (cmps_ok E a b) rfl rfl ?_)
 rintro _ _ ⟨rfl, rfl⟩
 refine Xaa ?_
 exact XdE
section
variable (E : World)
theorem lnew_ok : Does Tryz.prog E 55 [] [] fun v L => ∃ p : Nat, v = .pointer (some ⟨p, 0, none⟩) ∧ L = [cel p (lgL [] SV.nil) 172, slc tFl true SV.nil []] := by
 refine Does.of Tryz.func55 rfl Tryz.ntmps55 rfl rfl fun F => ?_
 refine Xb ?_
 refine Xi ?_
 refine XW ?_
 refine L_o rfl rfl rfl (O_box rfl fun b2 => ?_)
 refine Xq ?_
 refine retQ_ret _ [_, _] (.cons (RV_tmp rfl) .nil) ⟨b2, rfl, rfl⟩ ?_
 exact Xf6
theorem lclone_ok (p : Nat) (k : List UInt8) (S : SV) (l : List Fl) (hl : l.length ≤ 1000) : Does Tryz.prog E 62 [.pointer (some ⟨p, 0, none⟩)] [cel p (lgL k S) 172, slc tFl true S l] fun v L => ∃ (q : Nat) (T : SV), v = .pointer (some ⟨q, 0, none⟩) ∧ L = [cel p (lgL k S) 172, slc tFl true S l, cel q (lgL k T) 172, slc tFl true T l] := by
 have hc := flcloneG E (slc tFl true S l) S l (fun w L h => h.rd 0 rfl) (by omega)
 refine Does.of Tryz.func62 rfl Tryz.ntmps62 rfl rfl fun F => ?_
 refine XaL ?_
 refine Lq (Q_nilCheck rfl) ?_
 refine X1 ?_
 refine L_o rfl rfl rfl (O_alloc fun b3 => ?_)
 refine XG ?_
 refine Xg ?_
 refine XL ?_
 refine XE ?_
 refine L_o rfl rfl rfl (O_call [2] [0,1,3] hc rfl rfl ?_)
 rintro _ _ ⟨T, rfl, rfl⟩
 refine Xc ?_
 refine XD ?_
 refine L_s rfl rfl (O_st1 2 rfl rfl rfl rfl rfl ?_)
 refine Xr ?_
 refine Xaf ?_
 exact retQ_ret _ [_, _, _, _] (.cons (RV_tmp rfl) .nil) ⟨b3, T, rfl, rfl⟩ (Ent.re [3,0,2,1,4] rfl)
theorem lpruned_ok (p : Nat) (k : List UInt8) (S : SV) : Does Tryz.prog E 116 [.pointer (some ⟨p, 0, none⟩)] [cel p (lgL k S) 172] fun v L => v = .int .i64 (-1) ∧ L = [cel p (lgL k S) 172] := by
 refine Does.of Tryz.func116 rfl Tryz.ntmps116 rfl rfl fun F => ?_
 refine Xb ?_
 refine XbI ?_
 refine Xag ?_
 refine Xaj ?_
 refine Xq ?_
 exact Xcj
theorem lfind1_ok (f : Fl) (s : List UInt8) : Does Tryz.prog E 163 [.agg (flL f).toArray, str s] [] fun v L => v = .int .i64 (Lib.compareBytes f.name s) ∧ L = [] := by
 have hc := compare_ok E f.name s
 refine Does.of Tryz.func163 rfl Tryz.ntmps163 rfl rfl fun F => ?_
 refine Xb ?_
 refine L_o rfl rfl rfl (O_box rfl fun b2 => ?_)
 refine XC ?_
 refine XaF ?_
 refine Xd ?_
 refine Xcy ?_
 exact Xcr
/-- Found in none, or in one that is it. -/
theorem lbin0_ok (S : SV) (s : List UInt8) : Does Tryz.prog E 162 [S.v, str s, .func (.func 163) #[] #[]] [slc tFl true S []] fun v L => v = .tuple #[.int .i64 0, .bool false] ∧ L = [slc tFl true S []] := by
 refine Does.of Tryz.func162 rfl Tryz.ntmps162 rfl rfl fun F => ?_
 refine Xb ?_
 refine Xam ?_
 refine XO ?_
 refine Xx ?_
 refine Xs ?_
 refine X5 ?_
 refine J_loop (fun _ : Unit => True) (fun _ => [(0, S.v), (1, str s), (2, .func (.func 163) #[] #[]), (8, .int .i64 0), (9, .int .i64 0), (10, .int .i64 0)]) (fun _ => [slc tFl true S [], F]) (fun _ => 0) () trivial ⟨rfl, rfl, rfl, rfl, rfl, rfl, trivial⟩ (Ent.refl _) ?_
 rintro _ _
 refine Xad ?_
 refine Xat ?_
 refine X2 ?_
 refine XaA ?_
 refine Xg ?_
 refine Xf ?_
 refine Xat ?_
 refine XbJ ?_
 refine Xa7 ?_
 refine Xa7 ?_
 refine Xp ?_
 exact XfE
end
end Go.Proofs
