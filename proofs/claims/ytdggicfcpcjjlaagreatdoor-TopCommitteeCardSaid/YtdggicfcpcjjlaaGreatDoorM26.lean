/- Part 26 of the texts below the row: Mul1, Mul2, Mul3, ScP. -/
import Derived.Test.YtdggicfcpcjjlaaGreatDoorM1
import Derived.Test.YtdggicfcpcjjlaaGreatDoorM11
import Derived.Test.YtdggicfcpcjjlaaGreatDoorM12
import Derived.Test.YtdggicfcpcjjlaaGreatDoorM13
import Derived.Test.YtdggicfcpcjjlaaGreatDoorM25
/- The multiples 0 to 15 of a point. -/
set_option autoImplicit false
namespace Go.Proofs
open Go.SL
theorem jL_one (j : Jq) : ∀ v ∈ jL j, v.oneCell' = true := by
 intro v hv
 simp only [jL, List.mem_cons, List.not_mem_nil, or_false] at hv
 rcases hv with rfl | rfl | rfl | rfl | rfl | rfl | rfl | rfl | rfl | rfl | rfl | rfl <;> rfl
def tJ : Ty Jq := ⟨149, 12, jL, fun _ => rfl, by decide, jL_one⟩
def winF (i : Nat) (l : List Jq) : Jq := if i % 2 = 0 then Ec.jdbl (l.getD (i / 2) jz) else Ec.jadd (l.getD (i - 1) jz) (l.getD 1 jz)
def winL (A : Option (Ec.Af Nt.pP)) : Nat → List Jq
 | 0 => [jz, jin A]
 | k + 1 => winL A k ++ [winF (k + 2) (winL A k)]
theorem winL_len (A : Option (Ec.Af Nt.pP)) : ∀ k, (winL A k).length = k + 2
 | 0 => rfl
 | k + 1 => by rw [winL, List.length_append, winL_len A k]; rfl
theorem winL_pre (A : Option (Ec.Af Nt.pP)) (k : Nat) : ∀ m, ∃ r, winL A (k + m) = winL A k ++ r
 | 0 => ⟨[], by simp⟩
 | m + 1 => by
  obtain ⟨r, hr⟩ := winL_pre A k m
  exact ⟨r ++ [winF (k + m + 2) (winL A (k + m))], by rw [← Nat.add_assoc, winL, ← List.append_assoc, ← hr]⟩
theorem winL_get (A : Option (Ec.Af Nt.pP)) {k j i : Nat} (hk : k ≤ j) (hi : i < k + 2) : (winL A j).getD i jz = (winL A k).getD i jz := by
 obtain ⟨r, hr⟩ := winL_pre A k (j - k)
 rw [show k + (j - k) = j by omega] at hr
 have hl := winL_len A k
 rw [hr, List.getD_eq_getElem?_getD, List.getElem?_append_left (by omega), List.getD_eq_getElem?_getD]
def win (A : Option (Ec.Af Nt.pP)) (d : Nat) : Jq := (winL A 14).getD d jz
theorem win_eq (A : Option (Ec.Af Nt.pP)) (i : Nat) (h2 : 2 ≤ i) (h16 : i < 16) : win A i = if i % 2 = 0 then Ec.jdbl (win A (i / 2)) else Ec.jadd (win A (i - 1)) (win A 1) := by
 obtain ⟨k, rfl⟩ : ∃ k, i = k + 2 := ⟨i - 2, by omega⟩
 have e1 : win A (k + 2) = winF (k + 2) (winL A k) := by
  unfold win
  rw [winL_get A (k := k + 1) (j := 14) (by omega) (by omega), winL, List.getD_eq_getElem?_getD, List.getElem?_append_right (by rw [winL_len]; omega), winL_len]
  simp
 rw [e1]
 unfold winF win
 rw [winL_get A (k := k) (j := 14) (by omega) (by omega : (k + 2) / 2 < k + 2), winL_get A (k := k) (j := 14) (by omega) (by omega : k + 2 - 1 < k + 2), winL_get A (k := k) (j := 14) (by omega) (by omega : 1 < k + 2)]
theorem win_rep (A : Pt) (i : Nat) (hi : i < 16) : Ec.Rep (win A.p i) (Ec.E.mul i A).p := by
 refine Ec.win_rep (c := cvP) (A := A) rfl (w := win A.p) ?_ ?_ (win_eq A.p) i hi
 ·have : win A.p 0 = jz := by unfold win; rw [winL_get A.p (k := 0) (j := 14) (by decide) (by decide)]; rfl
  rw [this]; exact Ec.rep_none
 ·have : win A.p 1 = jin A.p := by unfold win; rw [winL_get A.p (k := 0) (j := 14) (by decide) (by decide)]; rfl
  rw [this]
  cases A.p with
  | none => exact Ec.rep_none
  | some P => exact Ec.rep_one KP P
def wmem (A : Option (Ec.Af Nt.pP)) (k : Nat) : List Jq := winL A k ++ List.replicate (14 - k) jz
theorem wmem_len (A : Option (Ec.Af Nt.pP)) (k : Nat) (h : k ≤ 14) : (wmem A k).length = 16 := by unfold wmem; rw [List.length_append, winL_len, List.length_replicate]; omega
theorem wmem_get (A : Option (Ec.Af Nt.pP)) {k i : Nat} (h : k ≤ 14) (hi : i < k + 2) : (wmem A k)[i]'(by rw [wmem_len A k h]; omega) = (winL A k).getD i jz := by
 have hl := winL_len A k
 unfold wmem
 rw [List.getElem_append_left (by omega), List.getD_eq_getElem?_getD, List.getElem?_eq_getElem (by omega)]
 rfl
theorem wmem_set (A : Option (Ec.Af Nt.pP)) {k : Nat} (h : k < 14) : (wmem A k).set (k + 2) (winF (k + 2) (winL A k)) = wmem A (k + 1) := by
 unfold wmem
 rw [List.set_append_right _ _ (by rw [winL_len]; omega), winL_len, Nat.sub_self, show 14 - k = (14 - (k + 1)) + 1 by omega, List.replicate_succ, List.set_cons_zero, winL, List.append_assoc]
 rfl
theorem flJ_len (l : List Jq) : (tJ.flat l).length = l.length * 12 := tJ.flat_length l
theorem flJ_at (l : List Jq) (k : Nat) (hk : k < l.length) : ((tJ.flat l).drop (k * 12)).take 12 = jL l[k] := tJ.flat_at l k hk
theorem flJ_set (l : List Jq) (k : Nat) (a : Jq) (hk : k < l.length) : (tJ.flat l).take (k * 12) ++ jL a ++ (tJ.flat l).drop (k * 12 + 12) = tJ.flat (l.set k a) := by
 have := tJ.flat_set l k a hk
 rw [this, show (k + 1) * tJ.sz = k * 12 + 12 by show (k + 1) * 12 = _; omega]
 rfl
theorem zerosJ : (tJ.flat (List.replicate 16 jz)) = List.replicate 192 (.int .u64 0) := by
 rw [tJ.flat_replicate, show tJ.enc jz = List.replicate 12 (.int .u64 0) by show jL jz = _; rw [jz_l]; rfl, List.flatten_replicate_replicate]
attribute [local irreducible] J JL QOp JOp seqQ blockQ loopQ retQ slc cel hex star pur stars Does RV Ent pAt scopeQ
theorem window_ok (E : World) (A : Option (Ec.Af Nt.pP)) : Does Tryz.prog E 131 [cuV, (pwO A).v] [] fun r L => r = .agg (tJ.flat (winL A 14)).toArray ∧ L = [] := by
 have hin := jin_ok E A
 have hpl : CellsL (pwO A).v (pwO A).l := inferInstance
 generalize hpv : (pwO A) = pv at *
 refine Does.of Tryz.func131 rfl Tryz.ntmps131 rfl rfl fun F => ?_
 refine Xb ?_
 refine L_o rfl rfl rfl (O_box rfl fun b2 => ?_)
 refine L_o rfl rfl rfl (O_box rfl fun b3 => ?_)
 refine L_o rfl rfl rfl (O_allocL (tJ.flat (List.replicate 16 jz)) (by rw [zerosJ]; kernel_rfl) (fun b4 => ?_))
 refine Xr ?_
 refine Sr ?_
 refine L_o rfl rfl rfl (O_allocL (tJ.flat (List.replicate 16 jz)) (by rw [zerosJ]; kernel_rfl) (fun b5 => ?_))
 refine Xr ?_
 refine Sr ?_
 refine Xa5 ?_
 refine X0 ?_
 refine L_o rfl rfl rfl (O_callP (hin) rfl ?_)
 refine Lq (Q_ia (o' := 12) 1 rfl rfl rfl (by decide) rfl) ?_
 refine L_s rfl rfl (O_stV (o := 12) (sz := 12) 0 rfl rfl rfl rfl (jL_one _) (by rw [flJ_len, List.length_replicate]; exact Nat.le_of_ble_eq_true rfl) ?_)
 refine XQ ?_
 refine Xa4 ?_
 rw [show (12 : Nat) = 1 * 12 from rfl, flJ_set (List.replicate 16 jz) 1 (jin A) (by rw [List.length_replicate]; decide), show (List.replicate 16 jz).set 1 (jin A) = wmem A 0 from rfl]
 refine J_loop (fun k : Nat => k ≤ 14) (fun k => [(2, .pointer (some ⟨b2, 0, none⟩)), (4, .pointer (some ⟨b4, 0, none⟩)), (5, .pointer (some ⟨b5, 0, none⟩)), (6, .int .i64 ((k + 2 : Nat) : Int))]) (fun k => [cel b5 (tJ.flat (wmem A k)) 211, cel b4 (tJ.flat (List.replicate 16 jz)) 211, cel b3 pv.l 32, cel b2 cuL 145, F]) (fun k => 14 - k) 0 (Nat.zero_le _) ⟨rfl, rfl, rfl, rfl, trivial⟩ (Ent.refl _) ?_
 intro k hk
 have hlen := wmem_len A k hk
 by_cases h : k < 14
 ·refine Xw ?_
  refine XaW ?_
  refine Xac ?_
  refine J_seq ?_
  by_cases he : (k + 2) % 2 = 0
  ·have hx := wmem_get A (k := k) (i := (k + 2) / 2) hk (by omega)
   have hd := jdbl_ok E ((winL A k).getD ((k + 2) / 2) jz)
   rw [← hx] at hd
   have ew : Ec.jdbl ((wmem A k)[(k + 2) / 2]'(by rw [hlen]; omega)) = winF (k + 2) (winL A k) := by unfold winF; rw [if_pos he, hx]
   rw [ew] at hd
   refine Xfy ?_
   refine XeQ ?_
   refine DH [3,0] [0,1,2,3,4,5,7] (.quiet 0 (.quiet 1 (.quiet 2 (.quiet 3 (.quiet 4 (.quiet 5 (.loud 6 (.quiet 7 (.loud 8 .done))))))))) Tryz.mixed ?_
   refine Sq (Ent.re [3,0] rfl) rfl (Q_move rfl) ?_
   refine Sq (Ent.re [3,0] rfl) rfl (Q_ldA 0 rfl rfl rfl) ?_
   refine Sq (Ent.re [3,0] rfl) rfl (Q_move rfl) ?_
   refine Sq (Ent.re [3,0] rfl) rfl ((Q_quo rfl rfl (by decide) (IntWalk.i64_quo _ _ (by omega))).as (v' := .int .i64 (((k + 2) / 2 : Nat) : Int)) (congrArg (Value.int .i64) (by omega))) ?_
   refine Sq (Ent.re [3,0] rfl) rfl (Q_ia (o' := (k + 2) / 2 * 12) ((k + 2) / 2) rfl rfl rfl (by omega) (by omega)) ?_
   refine Sq (Ent.re [3,0] rfl) rfl (Q_ldS (vs := jL ((wmem A k)[(k + 2) / 2]'(by rw [hlen]; omega))) 1 rfl rfl rfl (flJ_at _ _ _) rfl) ?_
   refine S_o rfl rfl rfl rfl (O_callP (hd) rfl ⟨_, fun _ => ⟨Ent.reN [3,0] rfl, Ent.refl _⟩, ?_⟩)
   refine Xa ?_
   refine Sq (Ent.re [3,0] rfl) rfl (Q_ia (o' := (k + 2) * 12) (k + 2) rfl rfl rfl (by omega) (by omega)) ?_
   refine S_s rfl rfl rfl (O_stV (o := (k + 2) * 12) (sz := 12) 0 rfl rfl rfl rfl (jL_one _) (by rw [flJ_len, hlen]; show _ + 12 ≤ 16 * 12; omega) ⟨[], free_no (by kernel_rfl), ?_⟩)
   refine Xaq ?_
   refine XV ?_
   rw [flJ_set (wmem A k) (k + 2) (winF (k + 2) (winL A k)) (by rw [hlen]; omega), wmem_set A h]
   refine Xe ?_
   exact XfD
  ·have hx := wmem_get A (k := k) (i := k + 2 - 1) hk (by omega)
   have hx1 := wmem_get A (k := k) (i := 1) hk (by omega)
   have hd := jadd_ok E ((winL A k).getD (k + 2 - 1) jz) ((winL A k).getD 1 jz)
   rw [← hx, ← hx1] at hd
   have ew : Ec.jadd ((wmem A k)[k + 2 - 1]'(by rw [hlen]; omega)) ((wmem A k)[1]'(by rw [hlen]; omega)) = winF (k + 2) (winL A k) := by unfold winF; rw [if_neg he, hx, hx1]
   rw [ew] at hd
   refine Xfy ?_
   refine XcB ?_
   refine X2 ?_
   refine DH [3,0] [0,1,2,3,4,5,6,7,9] (.quiet 0 (.quiet 1 (.quiet 2 (.quiet 3 (.quiet 4 (.quiet 5 (.quiet 6 (.quiet 7 (.loud 8 (.quiet 9 (.loud 10 .done))))))))))) Tryz.mixed ?_
   refine Sq (Ent.re [3,0] rfl) rfl (Q_move rfl) ?_
   refine Sq (Ent.re [3,0] rfl) rfl (Q_ldA 0 rfl rfl rfl) ?_
   refine Sq (Ent.re [3,0] rfl) rfl (Q_move rfl) ?_
   refine Sq (Ent.re [3,0] rfl) rfl ((Q_sub rfl rfl (IntWalk.i64_in _ (by omega))).as (v' := .int .i64 ((k + 2 - 1 : Nat) : Int)) (congrArg (Value.int .i64) (by omega))) ?_
   refine Sq (Ent.re [3,0] rfl) rfl (Q_ia (o' := (k + 2 - 1) * 12) (k + 2 - 1) rfl rfl rfl (by omega) (by omega)) ?_
   refine Sq (Ent.re [3,0] rfl) rfl (Q_ldS (vs := jL ((wmem A k)[k + 2 - 1]'(by rw [hlen]; omega))) 1 rfl rfl rfl (flJ_at _ _ _) rfl) ?_
   refine Sq (Ent.re [3,0] rfl) rfl (Q_ia (o' := 1 * 12) 1 rfl rfl rfl (by decide) rfl) ?_
   refine Sq (Ent.re [3,0] rfl) rfl (Q_ldS (vs := jL ((wmem A k)[1]'(by rw [hlen]; omega))) 1 rfl rfl rfl (flJ_at _ _ _) rfl) ?_
   refine S_o rfl rfl rfl rfl (O_callP (hd) rfl ⟨_, fun _ => ⟨Ent.reN [3,0] rfl, Ent.refl _⟩, ?_⟩)
   refine Xa ?_
   refine Sq (Ent.re [3,0] rfl) rfl (Q_ia (o' := (k + 2) * 12) (k + 2) rfl rfl rfl (by omega) (by omega)) ?_
   refine S_s rfl rfl rfl (O_stV (o := (k + 2) * 12) (sz := 12) 0 rfl rfl rfl rfl (jL_one _) (by rw [flJ_len, hlen]; show _ + 12 ≤ 16 * 12; omega) ⟨[], free_no (by kernel_rfl), ?_⟩)
   refine Xaq ?_
   refine XV ?_
   rw [flJ_set (wmem A k) (k + 2) (winF (k + 2) (winL A k)) (by rw [hlen]; omega), wmem_set A h]
   refine Xe ?_
   exact XfD
 ·obtain rfl : k = 14 := by omega
  refine Xw ?_
  refine Xat ?_
  refine X2 ?_
  refine XaA ?_
  refine J_seq ?_
  have hw : wmem A 14 = winL A 14 := by unfold wmem; simp
  rw [hw] at hlen ⊢
  have hl2 : (tJ.flat (winL A 14)).length = 192 := by rw [flJ_len, hlen]
  refine Xh ?_
  refine Lq (Q_ldS (sz := 192) (vs := tJ.flat (winL A 14)) 0 rfl rfl rfl (by rw [List.drop_zero, ← hl2, List.take_length]) hl2) ?_
  refine L_s rfl rfl (O_stV (o := 0) (sz := 192) 1 rfl rfl rfl hl2 (tJ.flat_one _) (by rw [flJ_len, List.length_replicate]; exact Nat.le_of_ble_eq_true rfl) ?_)
  refine Xr ?_
  refine J_ret ?_
  rw [whole_put (a := tJ.flat (List.replicate 16 jz)) (by rw [flJ_len, List.length_replicate])]
  exact retQ_ret _ [] (.cons (RV_cell 1 rfl rfl rfl hl2) .nil) ⟨rfl, rfl⟩ (Ent.re [4] rfl)
end Go.Proofs
/- A number's digits, gone over; a multiple of a point, as the code makes it. -/
set_option autoImplicit false
namespace Go.Proofs
open Go.SL
attribute [local irreducible] J JL QOp JOp seqQ blockQ loopQ retQ slc cel hex star pur stars Does RV Ent pAt scopeQ JR seqR endR JLI DoesY
theorem digits_ok (E : World) (x : W4) : Does Tryz.prog E 132 [x.v] [] fun r L => ∃ b, r = .func (.func 177) #[] #[.pointer (some ⟨b, 0, none⟩)] ∧ L = [cel b x.l 24] := by
 refine Does.of Tryz.func132 rfl Tryz.ntmps132 rfl rfl fun F => ?_
 refine Xb ?_
 refine L_o rfl rfl rfl (O_box rfl fun b1 => ?_)
 refine XC ?_
 refine Lq (Q_makeFunc (xs := []) (ys := [.tmp 1]) (vs := []) (us := [.pointer (some ⟨b1, 0, none⟩)]) rfl rfl) ?_
 refine Xq ?_
 exact retQ_ret _ [_] (.cons (RV_tmp rfl) .nil) ⟨b1, rfl, rfl⟩ (Ent.refl _)
theorem digits1_ok (E : World) (x : W4) (hx : x.ok) (b1 lp : Nat) (R : Loop) (h1 : R.params.size = 1) (G : List Nat → HProp)
 (hy : ∀ ds d, d < 16 → DoesY Tryz.prog E lp R #[.int .i64 ((d : Nat) : Int)] [G ds] fun L => L = [G (ds ++ [d])]) :
 Does Tryz.prog E 177 [.func (.yield lp) #[] #[], .pointer (some ⟨b1, 0, none⟩)] [blk lp (.loop R), G [], cel b1 x.l 24] fun _ L => ∃ ds, ((∀ d ∈ ds, d < 16) ∧ Ec.numD ds 0 = x.n) ∧ L = [blk lp (.loop R), G ds, cel b1 x.l 24] := by
 have hd := jdigits_ok E x hx
 refine Does.of Tryz.func177 rfl Tryz.ntmps177 rfl rfl fun F => ?_
 refine Xb ?_
 refine X0 ?_
 refine L_o rfl rfl rfl (O_call [] [0,1,2,3] hd rfl rfl ?_)
 rintro _ _ ⟨S, ds, rfl, rfl, hlt, hn, h64⟩
 refine Xc ?_
 refine Xba ?_
 refine J_loop (fun i : Nat => i ≤ ds.length) (fun i => [(0, .func (.yield lp) #[] #[]), (1, .pointer (some ⟨b1, 0, none⟩)), (6, S.v), (7, .int .i64 (ds.length : Int)), (8, .int .i64 (i : Int))]) (fun i => [blk lp (.loop R), G (ds.take i), slc tN true S ds, cel b1 x.l 24, F]) (fun i => ds.length - i) 0 (Nat.zero_le _) ⟨rfl, rfl, rfl, rfl, rfl, trivial⟩ (Ent.re [1,2,0,3,4] rfl) ?_
 intro i hi
 by_cases h : i < ds.length
 ·have hv : ds[i] < 16 := hlt _ (List.getElem_mem h)
  have hyy := hy (ds.take i) ds[i] hv
  rw [← List.take_succ_eq_append_getElem h] at hyy
  refine Xaz ?_
  refine Lq (Q_ixAt 2 i rfl rfl rfl rfl h rfl) ?_
  refine Lq (Q_ldEAt 2 i 0 (v := .int .i64 ((ds[i] : Nat) : Int)) rfl rfl rfl rfl h (by decide) rfl) ?_
  refine Xn ?_
  refine J_regionI ?_
  refine I_q (Q_move rfl) rfl rfl rfl rfl ?_
  refine I_q (Q_move rfl) rfl rfl rfl rfl ?_
  refine I_y [0,1] [2,3,4] rfl rfl rfl h1 hyy rfl ?_
  rintro _ rfl
  refine I_q ((Q_not (b := true) rfl).as (v' := .bool false) rfl) rfl rfl rfl rfl ?_
  refine I_nil ?_
  refine seqQ_normal ?_
  refine J_condF rfl ?_
  refine J_skip ?_
  refine X8 ?_
  exact XdQ
 ·obtain rfl : i = ds.length := by omega
  rw [List.take_length]
  refine Xct ?_
  refine XbA ?_
  exact retQ_normal _ [blk lp (.loop R), G ds, cel b1 x.l 24] .nil ⟨ds, ⟨hlt, hn⟩, rfl⟩ (Ent.re [0,1,3,4] rfl)
def stp (A : Option (Ec.Af Nt.pP)) : Jq → Nat → Jq := Ec.jstep (win A)
/-- What the rounds have made so far. -/
def rG (A : Option (Ec.Af Nt.pP)) (b8 b7 b3 : Nat) (ds : List Nat) : HProp := stars [cel b8 (jL (ds.foldl (stp A) jz)) 149, cel b7 (tJ.flat (winL A 14)) 211, cel b3 cuL 145]
theorem rG_app (A : Option (Ec.Af Nt.pP)) (b8 b7 b3 : Nat) (ds : List Nat) (d : Nat) : rG A b8 b7 b3 (ds ++ [d]) = stars [cel b8 (jL (stp A (ds.foldl (stp A) jz) d)) 149, cel b7 (tJ.flat (winL A 14)) 211, cel b3 cuL 145] := by
 unfold rG; rw [List.foldl_append]; rfl
theorem rG_out (A : Option (Ec.Af Nt.pP)) (b8 b7 b3 : Nat) (ds : List Nat) (L : List HProp) : Ent (rG A b8 b7 b3 ds :: L) (cel b8 (jL (ds.foldl (stp A) jz)) 149 :: cel b7 (tJ.flat (winL A 14)) 211 :: cel b3 cuL 145 :: L) := Ent.spread (R := [_, _, _])
theorem rG_in (A : Option (Ec.Af Nt.pP)) (b8 b7 b3 : Nat) (ds : List Nat) (d : Nat) (L : List HProp) : Ent (cel b8 (jL (stp A (ds.foldl (stp A) jz) d)) 149 :: cel b7 (tJ.flat (winL A 14)) 211 :: cel b3 cuL 145 :: L) (rG A b8 b7 b3 (ds ++ [d]) :: L) := by
 rw [rG_app]; exact Ent.gather (R := [_, _, _])
theorem rG_start (A : Option (Ec.Af Nt.pP)) (b8 b7 b3 : Nat) (L : List HProp) : Ent (cel b8 (jL jz) 149 :: cel b7 (tJ.flat (winL A 14)) 211 :: cel b3 cuL 145 :: L) (rG A b8 b7 b3 [] :: L) := Ent.gather (R := [_, _, _])
def dblN : Nat → Jq → Jq
 | 0, r => r
 | k + 1, r => Ec.jdbl (dblN k r)
theorem raw_ok (E : World) (x : W4) (hx : x.ok) (A : Option (Ec.Af Nt.pP)) : Does Tryz.prog E 78 [cuV, x.v, (pwO A).v] [] fun r L => ∃ ds, ((∀ d ∈ ds, d < 16) ∧ Ec.numD ds 0 = x.n) ∧ r = jv (ds.foldl (stp A) jz) ∧ L = [] := by
 have hw := window_ok E A
 have hl2 : (tJ.flat (winL A 14)).length = 192 := by rw [flJ_len, winL_len]
 have hdg := digits_ok E x
 generalize hpv : pwO A = pv at *
 refine Does.marks Tryz.func78 rfl rfl rfl fun F => ?_
 refine JW.norm ?_
 refine JW_seq ?_
 refine Xh ?_
 refine L_o rfl rfl rfl (O_box rfl fun b3 => ?_)
 refine L_o rfl rfl rfl (O_box rfl fun b4 => ?_)
 refine L_o rfl rfl rfl (O_box rfl fun b5 => ?_)
 refine L_o rfl rfl rfl (O_alloc fun b6 => ?_)
 refine JL_nil ?_
 refine ⟨rfl, ?_⟩
 refine JW_seq ?_
 refine Xh ?_
 refine Xa5 ?_
 refine XI ?_
 refine L_o rfl rfl rfl (O_callP (hw) rfl ?_)
 refine L_o rfl rfl rfl (O_allocL (List.replicate 192 (.int .u64 0)) (by kernel_rfl) (fun b7 => ?_))
 refine Xc ?_
 refine L_s rfl rfl (O_stV (o := 0) (sz := 192) 0 rfl rfl rfl hl2 (tJ.flat_one _) (by rw [List.length_replicate]; exact Nat.le_of_ble_eq_true rfl) ?_)
 refine X6 ?_
 rw [whole_put (a := List.replicate 192 (.int .u64 0)) (by rw [List.length_replicate])]
 refine ⟨rfl, ?_⟩
 refine JW_seq ?_
 refine Xh ?_
 refine Xk ?_
 refine L_o rfl rfl rfl (O_alloc fun b8 => ?_)
 refine Xz ?_
 refine JL_nil ?_
 refine ⟨rfl, ?_⟩
 refine JW_seq2 ?_
 refine Xh ?_
 refine XaU ?_
 refine L_o rfl rfl rfl (O_call [] [0,1,2,3,4,5,6] hdg rfl rfl ?_)
 rintro _ _ ⟨bd, rfl, rfl⟩
 refine X6 ?_
 refine ⟨rfl, ?_⟩
 refine JW.norm ?_
 have hz : [(.int .u64 0 : Value), .int .u64 0, .int .u64 0, .int .u64 0, .int .u64 0, .int .u64 0, .int .u64 0, .int .u64 0, .int .u64 0, .int .u64 0, .int .u64 0, .int .u64 0] = jL jz := jz_l.symm
 rw [hz]
 refine JW.ent (Ent.trans (Ent.re [1,2,6,0,3,4,5,7] rfl) (rG_start A b8 b7 b3 _)) ?_
 refine JW_range (fun ds : List Nat => (∀ d ∈ ds, d < 16) ∧ Ec.numD ds 0 = x.n) (fun ds => [rG A b8 b7 b3 ds, cel bd x.l 24]) [0,1] [2,3,4,5] rfl rfl ?_ ?_
 ·intro lp r fn tm ha
  refine (digits1_ok E x hx bd lp _ rfl (rG A b8 b7 b3) ?_).mono fun v L' h => ?_
  ·intro ds d hd
   have hwl : (winL A 14).length = 16 := winL_len A 14
   have hdl : d < (winL A 14).length := by rw [hwl]; exact hd
   refine DoesY.of (ha.put (some 16) (.int .i64 ((d : Nat) : Int)) rfl) fun F' => ?_
   refine JR_region rfl endR_calm ?_
   refine Xj ?_
   refine endR_normal ⟨[rG A b8 b7 b3 ds, F'], rfl, ?_⟩
   generalize blk lp _ = B
   refine JR.ent (Ent.trans (Ent.re [1,0,2] rfl) (rG_out A b8 b7 b3 ds _)) ?_
   refine JR_block ?_
   refine JR_seq ?_
   refine JR_seq ?_
   refine JR_region rfl (by repeat (first | exact endR_calm | refine seqR_calm ?_ | refine blockQ_calm ?_ | refine loopQ_calm ?_)) ?_
   refine Xd ?_
   refine JL_nil ?_
   refine seqR_normal ?_
   refine JR_block ?_
   refine JR_loop (fun k : Nat => k ≤ 4) (fun k => [(3, .pointer (some ⟨b3, 0, none⟩)), (7, .pointer (some ⟨b7, 0, none⟩)), (8, .pointer (some ⟨b8, 0, none⟩)), (9, .int .i64 ((d : Nat) : Int)), (17, .int .i64 (k : Int))]) (fun k => [cel b8 (jL (dblN k (ds.foldl (stp A) jz))) 149, cel b7 (tJ.flat (winL A 14)) 211, cel b3 cuL 145, B, F']) (fun k => 4 - k) 0 (Nat.zero_le _) ⟨rfl, rfl, rfl, rfl, rfl, trivial⟩ (Ent.refl _) ?_
   intro k hk
   generalize hr : ds.foldl (stp A) jz = r0
   by_cases h : k < 4
   ·refine JR_seq ?_
    refine JR_region rfl (by repeat (first | exact endR_calm | refine seqR_calm ?_ | refine blockQ_calm ?_ | refine loopQ_calm ?_)) ?_
    refine Xdz ?_
    refine JL_nil ?_
    refine seqR_normal ?_
    refine JR_seq ?_
    refine JR_condT rfl ?_
    refine JR_skip ?_
    refine seqR_normal ?_
    refine JR_seq ?_
    refine JR_block ?_
    refine JR_region rfl (by repeat (first | exact endR_calm | refine seqR_calm ?_ | refine blockQ_calm ?_ | refine loopQ_calm ?_)) ?_
    refine X0 ?_
    refine X1 ?_
    refine L_o rfl rfl rfl (O_callP (jdbl_ok E (dblN k r0)) rfl ?_)
    refine Xz ?_
    refine JL_nil ?_
    refine blockQ_normal ?_
    refine seqR_normal ?_
    refine JR_region rfl (by repeat (first | exact endR_calm | refine seqR_calm ?_ | refine blockQ_calm ?_ | refine loopQ_calm ?_)) ?_
    refine XdR ?_
    refine JL_nil ?_
    exact loopQ_normal (k + 1) (by omega) (by omega) ⟨rfl, rfl, rfl, rfl, rfl, trivial⟩ (Ent.refl _)
   ·obtain rfl : k = 4 := by omega
    refine JR_seq ?_
    refine JR_region rfl (by repeat (first | exact endR_calm | refine seqR_calm ?_ | refine blockQ_calm ?_ | refine loopQ_calm ?_)) ?_
    refine Xat ?_
    refine JL_nil ?_
    refine seqR_normal ?_
    refine JR_seq ?_
    refine JR_condF rfl ?_
    refine JR_exit ?_
    refine seqR_exit ?_
    refine Xbr ?_
    refine seqR_normal ?_
    have hja := jadd_ok E (dblN 4 r0) ((winL A 14)[d])
    have e : Ec.jadd (dblN 4 r0) ((winL A 14)[d]) = stp A r0 d := by
     unfold stp Ec.jstep win
     rw [List.getD_eq_getElem?_getD, List.getElem?_eq_getElem hdl]; rfl
    rw [e] at hja
    refine JR_drawH [2,0,1] [0,1,2,3,4] (.quiet 0 (.quiet 1 (.quiet 2 (.quiet 3 (.quiet 4 (.loud 5 (.loud 6 .done))))))) Tryz.mixed (by kernel_rfl) (by kernel_rfl) (by repeat (first | exact endR_noP | refine seqR_noP ?_ | refine blockQ_noP ?_ | refine loopQ_noP ?_)) rfl (by repeat (first | exact endR_calm | refine seqR_calm ?_ | refine blockQ_calm ?_ | refine loopQ_calm ?_)) ?_
    refine Sq (Ent.re [2,0,1] rfl) rfl (Q_ldA 0 rfl rfl rfl) ?_
    refine Sq (Ent.re [2,0,1] rfl) rfl (Q_ldA 1 rfl rfl rfl) ?_
    refine Sq (Ent.re [2,0,1] rfl) rfl (Q_move rfl) ?_
    refine Sq (Ent.re [2,0,1] rfl) rfl (Q_ia (o' := d * 12) d rfl rfl rfl hd (by omega)) ?_
    refine Sq (Ent.re [2,0,1] rfl) rfl (Q_ldS (vs := jL ((winL A 14)[d])) 2 rfl rfl rfl (flJ_at _ _ _) rfl) ?_
    refine S_o rfl rfl rfl rfl (O_callP (hja) rfl ⟨[], free_no (by kernel_rfl), ?_⟩)
    refine Xa ?_
    refine Xau ?_
    refine S_nil ?_
    refine blockQ_normal ?_
    rw [← hr]
    exact endR_normal ⟨[rG A b8 b7 b3 (ds ++ [d])], rfl, Ent.trans (rG_in A b8 b7 b3 ds d _) (Ent.re [1,0,2] rfl)⟩
  ·obtain ⟨ds, h1, h2⟩ := h
   exact ⟨ds, h1, h2⟩
 ·intro r ds hI
  refine JWL.ent (Ent.trans (Ent.reN [1,0,2,3,4,5,6] rfl) (rG_out A b8 b7 b3 ds _)) ?_
  generalize hq : ds.foldl (stp A) jz = q
  refine JWL_region ?_
  refine X1 ?_
  refine Xdx ?_
  refine X6 ?_
  refine ⟨rfl, ?_⟩
  refine JWL.ent (Ent.re [3,5,8] rfl) ?_
  refine JWL_retM [jv q] [] rfl (.cons ?_ .nil) ?_ ?_
  ·exact RV_cell 0 rfl rfl rfl rfl
  ·exact ⟨ds, hI, by rw [hq]; rfl, rfl⟩
  ·exact Ent.re [1] rfl
end Go.Proofs
/- Multiples of points; sums of such. -/
set_option autoImplicit false
namespace Go.Proofs
open Go.SL
def gPw : Pw := ⟨gX, gY, false⟩
theorem gPw_ok : gPw.ok := ⟨by constructor <;> decide, by constructor <;> decide⟩
/-- The base. -/
def gP : Pt := own gPw
theorem gP_on : OnW gPw := by decide +kernel
noncomputable abbrev kP (k : Nat) (A : Pt) : Pt := Ec.E.mul k A
def tNm : Ty W4 := ⟨24, 4, fun x => x.l, fun _ => rfl, by decide, fun a v hv => by simp at hv; rcases hv with rfl | rfl | rfl | rfl <;> rfl⟩
instance : TyI Tryz.prog tNm.e 4 (.agg #[.int .u64 0, .int .u64 0, .int .u64 0, .int .u64 0]) 32 := inferInstanceAs (TyI Tryz.prog 24 4 (.agg #[.int .u64 0, .int .u64 0, .int .u64 0, .int .u64 0]) 32)
instance : TyU Tryz.prog 26 (.slice tNm.e) := inferInstanceAs (TyU Tryz.prog 26 (.slice 24))
def tPw : Ty Pw := ⟨32, 9, fun p => p.l, fun _ => rfl, by decide, fun a v hv => by simp at hv; rcases hv with rfl | rfl | rfl | rfl | rfl | rfl | rfl | rfl | rfl <;> rfl⟩
instance : TyI Tryz.prog tPw.e 9 (.agg #[.int .u64 0, .int .u64 0, .int .u64 0, .int .u64 0, .int .u64 0, .int .u64 0, .int .u64 0, .int .u64 0, .bool false]) 72 := inferInstanceAs (TyI Tryz.prog 32 9 (.agg #[.int .u64 0, .int .u64 0, .int .u64 0, .int .u64 0, .int .u64 0, .int .u64 0, .int .u64 0, .int .u64 0, .bool false]) 72)
instance : TyU Tryz.prog 46 (.slice tPw.e) := inferInstanceAs (TyU Tryz.prog 46 (.slice 32))
/-- The sum of multiples. -/
noncomputable def sumI (ks : List W4) (ps : List Pw) : Nat → Pt
 | 0 => Ec.E.zero
 | i + 1 => Ec.E.add (sumI ks ps i) (kP (ks.getD i z4).n (own (ps.getD i pw0)))
theorem getD_eq {α : Type} (l : List α) (i : Nat) (d : α) (h : i < l.length) : l.getD i d = l[i] := by rw [List.getD_eq_getElem?_getD, List.getElem?_eq_getElem h]; rfl
attribute [local irreducible] J JL QOp JOp seqQ blockQ loopQ retQ slc cel hex star pur stars Does RV Ent pAt scopeQ JR seqR endR JLI DoesY
section
variable (E : World)
theorem raw_rep (x : W4) (hx : x.ok) (A : Pt) : Does Tryz.prog E 78 [cuV, x.v, (pw A).v] [] fun r L => ∃ j, Ec.Rep j (kP x.n A).p ∧ r = jv j ∧ L = [] :=
 (raw_ok E x hx A.p).mono fun r L ⟨ds, ⟨h1, h2⟩, h3, h4⟩ => ⟨_, by
  have := Ec.jraw_rep (c := cvP) (A := A) rfl (w := win A.p) (win_rep A) ds jz 0 h1 Ec.rep_none
  rw [h2] at this; exact this, h3, h4⟩
theorem mul_ok (x : W4) (hx : x.ok) (p : Pw) (hp : p.ok) : Does Tryz.prog E 30 [x.v, p.v] [] fun r L => r = (pw (kP x.n (own p))).v ∧ L = [] := by
 have ho := own_ok E p hp
 have hr := raw_rep E x hx (own p)
 refine Does.of Tryz.func30 rfl Tryz.ntmps30 rfl rfl fun F => ?_
 refine Xb ?_
 refine L_o rfl rfl rfl (O_box rfl fun b2 => ?_)
 refine L_o rfl rfl rfl (O_box rfl fun b3 => ?_)
 refine L_o rfl rfl rfl (O_alloc fun b4 => ?_)
 refine Xby ?_
 refine L_o rfl rfl rfl (O_callP (jnew_ok E) rfl ?_)
 refine L_o rfl rfl rfl (O_alloc fun b5 => ?_)
 refine XB ?_
 refine DH [0,2,3] [0,1,2,3] (.quiet 0 (.quiet 1 (.quiet 2 (.quiet 3 (.loud 4 (.loud 5 (.loud 6 (.loud 7 .done)))))))) Tryz.mixed ?_
 refine XdL ?_
 refine XeO ?_
 refine S_o rfl rfl rfl rfl (O_callP (ho) rfl ⟨_, fun _ => ⟨Ent.reN [0,2,3] rfl, Ent.refl _⟩, ?_⟩)
 refine Xa ?_
 refine S_o rfl rfl rfl rfl (O_callE (hr) rfl fun j hj => ⟨_, fun _ => ⟨Ent.reN [0,2,3] rfl, Ent.refl _⟩, ?_⟩)
 refine Xa ?_
 refine S_o rfl rfl rfl rfl (O_callP (jout_ok E j _ hj) rfl ⟨[], free_no (by kernel_rfl), ?_⟩)
 exact Xcw
theorem base_ok (x : W4) (hx : x.ok) : Does Tryz.prog E 8 [x.v] [] fun r L => r = (pw (kP x.n gP)).v ∧ L = [] := by
 have hb := pbase_ok E
 have hm := mul_ok E x hx gPw gPw_ok
 refine Does.of Tryz.func8 rfl Tryz.ntmps8 rfl rfl fun F => ?_
 refine Xb ?_
 refine L_o rfl rfl rfl (O_box rfl fun b1 => ?_)
 refine L_o rfl rfl rfl (O_alloc fun b2 => ?_)
 refine Xt ?_
 refine DH [1] [0] (.quiet 0 (.loud 1 (.loud 2 (.loud 3 .done)))) Tryz.mixed ?_
 refine Sq (Ent.re [1] rfl) rfl (Q_ldA 0 rfl rfl rfl) ?_
 refine S_o rfl rfl rfl rfl (O_callP (hb) rfl ⟨_, fun _ => ⟨Ent.reN [1] rfl, Ent.refl _⟩, ?_⟩)
 refine Xa ?_
 refine S_o rfl rfl rfl rfl (O_callP (hm) rfl ⟨[], free_no (by kernel_rfl), ?_⟩)
 refine Xa ?_
 refine Xau ?_
 refine Xu ?_
 exact XcJ
theorem sum_ok (f1 f2 : Bool) (SK SP : SV) (ks : List W4) (ps : List Pw) (hk : ∀ k ∈ ks, k.ok) (hp : ∀ p ∈ ps, p.ok) (hl : ks.length = ps.length) (h63 : ps.length ≤ 1000) :
 Does Tryz.prog E 146 [SK.v, SP.v] [slc tNm f1 SK ks, slc tPw f2 SP ps] fun r L => r = (pw (sumI ks ps ps.length)).v ∧ L = [slc tNm f1 SK ks, slc tPw f2 SP ps] := by
 refine Does.of Tryz.func146 rfl Tryz.ntmps146 rfl rfl fun F => ?_
 refine Xb ?_
 refine L_o rfl rfl rfl (O_alloc fun b4 => ?_)
 refine Xby ?_
 refine L_o rfl rfl rfl (O_callP (jnew_ok E) rfl ?_)
 refine L_o rfl rfl rfl (O_alloc fun b5 => ?_)
 refine XG ?_
 refine XW ?_
 refine L_o rfl rfl rfl (O_alloc fun b6 => ?_)
 refine XB ?_
 refine J_seq ?_
 have hz : [(.int .u64 0 : Value), .int .u64 0, .int .u64 0, .int .u64 0, .int .u64 0, .int .u64 0, .int .u64 0, .int .u64 0, .int .u64 0, .int .u64 0, .int .u64 0, .int .u64 0] = jL jz := jz_l.symm
 rw [hz]
 refine Xe ?_
 refine Lq (Q_lenAt 3 rfl rfl) ?_
 refine Xd ?_
 refine Lq (Q_lenAt 4 rfl rfl) ?_
 refine Lq ((Q_min2 rfl rfl).as (v' := .int .i64 (ps.length : Int)) (congrArg (Value.int .i64) (by omega))) ?_
 refine XJ ?_
 refine J_loop (fun i : Nat × Jq => i.1 ≤ ps.length ∧ Ec.Rep i.2 (sumI ks ps i.1).p) (fun i => [(0, SK.v), (1, SP.v), (4, .pointer (some ⟨b4, 0, none⟩)), (5, .pointer (some ⟨b5, 0, none⟩)), (6, .pointer (some ⟨b6, 0, none⟩)), (14, .int .i64 (ps.length : Int)), (15, .int .i64 (i.1 : Int))]) (fun i => [cel b6 (jL i.2) 149, cel b5 cuL 145, cel b4 [.int .u64 0, .int .u64 0, .int .u64 0, .int .u64 0, .int .u64 0, .int .u64 0, .int .u64 0, .int .u64 0, .bool false] 32, slc tNm f1 SK ks, slc tPw f2 SP ps, F]) (fun i => ps.length - i.1) (0, jz) ⟨Nat.zero_le _, Ec.rep_none⟩ ⟨rfl, rfl, rfl, rfl, rfl, rfl, rfl, trivial⟩ (Ent.refl _) ?_
 rintro ⟨i, j⟩ ⟨hi, hj⟩
 dsimp only at hi hj ⊢
 by_cases h : i < ps.length
 ·have hik : i < ks.length := by omega
  have ho := own_ok E (ps[i]) (hp _ (List.getElem_mem h))
  have hr := raw_rep E (ks[i]) (hk _ (List.getElem_mem hik)) (own ps[i])
  refine XR ?_
  refine Xi ?_
  refine DH [0,1,3,4] [0,1,2,3,4,5,6,7,8,9,10] (.quiet 0 (.quiet 1 (.quiet 2 (.quiet 3 (.quiet 4 (.quiet 5 (.quiet 6 (.quiet 7 (.quiet 8 (.quiet 9 (.quiet 10 (.loud 11 (.loud 12 (.loud 13 (.loud 14 .done))))))))))))))) Tryz.mixed ?_
  refine Sq (Ent.re [0,1,3,4] rfl) rfl (Q_ldA 1 rfl rfl rfl) ?_
  refine Sq (Ent.re [0,1,3,4] rfl) rfl (Q_ldA 0 rfl rfl rfl) ?_
  refine Sq (Ent.re [0,1,3,4] rfl) rfl (Q_ldA 1 rfl rfl rfl) ?_
  refine Sq (Ent.re [0,1,3,4] rfl) rfl (Q_move rfl) ?_
  refine Sq (Ent.re [0,1,3,4] rfl) rfl (Q_move rfl) ?_
  refine Sq (Ent.re [0,1,3,4] rfl) rfl (Q_ixAt 2 i rfl rfl rfl rfl hik rfl) ?_
  refine Sq (Ent.re [0,1,3,4] rfl) rfl (Q_ldEAAt 2 i 0 (vs := (ks[i]).l) rfl rfl rfl rfl hik (Nat.le_refl 4) rfl) ?_
  refine Sq (Ent.re [0,1,3,4] rfl) rfl (Q_move rfl) ?_
  refine Sq (Ent.re [0,1,3,4] rfl) rfl (Q_move rfl) ?_
  refine Sq (Ent.re [0,1,3,4] rfl) rfl (Q_ixAt 3 i rfl rfl rfl rfl h rfl) ?_
  refine Sq (Ent.re [0,1,3,4] rfl) rfl (Q_ldEAAt 3 i 0 (vs := (ps[i]).l) rfl rfl rfl rfl h (Nat.le_refl 9) rfl) ?_
  refine S_o rfl rfl rfl rfl (O_callP (ho) rfl ⟨_, fun _ => ⟨Ent.reN [0,1,3,4] rfl, Ent.refl _⟩, ?_⟩)
  refine Xa ?_
  refine S_o rfl rfl rfl rfl (O_callE (hr) rfl fun q hq => ⟨_, fun _ => ⟨Ent.reN [0,1,3,4] rfl, Ent.refl _⟩, ?_⟩)
  refine Xa ?_
  refine S_o rfl rfl rfl rfl (O_callP (jadd_ok E j q) rfl ⟨[], free_no (by kernel_rfl), ?_⟩)
  refine Xa ?_
  refine Xau ?_
  refine S_nil ?_
  refine XV ?_
  have e : Ec.E.add (sumI ks ps i) (kP (ks[i]).n (own ps[i])) = sumI ks ps (i + 1) := by rw [sumI, getD_eq ks i z4 hik, getD_eq ps i pw0 h]
  refine Xh ?_
  refine Xbu ?_
  exact loopQ_normal (i + 1, Ec.jadd j q) ⟨by dsimp only; omega, by dsimp only; rw [← e]; exact Ec.jadd_rep rfl hj hq⟩ (by dsimp only; omega) ⟨rfl, rfl, rfl, rfl, rfl, rfl, rfl, trivial⟩ (Ent.refl _)
 ·obtain rfl : i = ps.length := by omega
  refine Xae ?_
  refine XbT ?_
  refine L_o rfl rfl rfl (O_callP (jout_ok E j _ hj) rfl ?_)
  refine XbW ?_
  refine Xr ?_
  refine J_ret ?_
  exact retQ_ret _ [slc tNm f1 SK ks, slc tPw f2 SP ps] (.cons (RV_cell 2 rfl rfl rfl rfl) .nil) ⟨rfl, rfl⟩ (Ent.re [3,4,5] rfl)
end
end Go.Proofs
/- Numbers modulo the order, as a field's; polynomials. -/
set_option autoImplicit false
namespace Go.Proofs
open Go.SL
instance nzQ : NeZero Nt.pQ := ⟨by decide⟩
abbrev Fq := Fin Nt.pQ
theorem KQ : Ec.Fld Nt.pQ := Nt.fld Nt.prQ (by decide)
def sv (x : W4) : Fq := Nt.toF Nt.pQ x.n
def ws (x : Fq) : W4 := W4.of x.val
theorem ws_ok (x : Fq) : (ws x).ok := W4.of_ok _
theorem fq_lt (x : Fq) : x.val < 115792089237316195423570985008687907853269984665640564039457584007913129639936 := Nat.lt_trans x.isLt (by decide)
theorem ws_n (x : Fq) : (ws x).n = x.val := W4.n_of (fq_lt x)
theorem ws_lt (x : Fq) : (ws x).n < Nt.pQ := by rw [ws_n]; exact x.isLt
theorem toQ_val (n : Nat) : (Nt.toF Nt.pQ n).val = n % Nt.pQ := rfl
theorem sv_ws (x : Fq) : sv (ws x) = x := by
 unfold sv; rw [ws_n]; exact Fin.ext (by rw [toQ_val]; exact Nat.mod_eq_of_lt x.isLt)
theorem ws_toF (n : Nat) : ws (Nt.toF Nt.pQ n) = W4.of (n % Nt.pQ) := rfl
theorem sadd_ws (a b : W4) : sadd a b = ws (sv a + sv b) := by
 unfold sadd sv
 rw [← Nt.toF_add, ws_toF]
theorem ssub_ws (a b : W4) : ssub a b = ws (sv a - sv b) := by
 unfold ssub sv
 rw [← Nt.toF_mod a.n, ← Nt.toF_mod b.n, ← Nt.toF_sub (Nat.le_of_lt (Nat.mod_lt _ (by decide))), ws_toF, Nat.mod_mod]
theorem smul_ws (a b : W4) : smul a b = ws (sv a * sv b) := by
 unfold smul sv
 rw [← Nt.toF_mul, ws_toF]
def siv (x : Fq) : Fq := Nt.toF Nt.pQ (Nt.invN Nt.pQ x.val)
theorem sinv_ws (a : W4) : sinv a = ws (siv (sv a)) := by
 unfold sinv siv
 rw [ws_toF]
 unfold Nt.invN
 rw [Nat.mod_mod]; rfl
theorem siv_mul {x : Fq} (h : x ≠ 0) : siv x * x = 1 := by
 have hn : ¬ Nt.pQ ∣ x.val := fun hd => by
  have h1 := Nat.eq_zero_of_dvd_of_lt hd x.isLt
  exact h (Fin.ext h1)
 have hf := Nt.fermat Nt.prQ hn
 unfold siv Nt.invN
 have hx : x = Nt.toF Nt.pQ x.val := Fin.ext (by rw [toQ_val]; exact (Nat.mod_eq_of_lt x.isLt).symm)
 have e : Nt.toF Nt.pQ (x.val ^ (Nt.pQ - 2) % Nt.pQ) * x = Nt.toF Nt.pQ (x.val ^ (Nt.pQ - 2) * x.val) := by
  rw [Nt.toF_mod, Nt.toF_mul, ← hx]
 rw [e, ← Nt.toF_mod, Nat.mul_comm, Nt.pow_pred (by decide), hf]
 rfl
theorem ws_0 : ws 0 = z4 := rfl
theorem ws_1 : ws 1 = one4 := rfl
/-- A place, as a number. -/
def plc (at_ : Nat) : Fq := Nt.toF Nt.pQ at_
abbrev plW (at_ : Nat) : W4 := ⟨at_, 0, 0, 0⟩
theorem plW_n (a : Nat) : (plW a).n = a := by unfold W4.n; dsimp only; omega
theorem plW_ok {a : Nat} (h : a < 18446744073709551616) : (plW a).ok := ⟨h, by show 0 < _; decide, by show 0 < _; decide, by show 0 < _; decide⟩
theorem sv_plW (a : Nat) : sv (plW a) = plc a := by unfold sv plc; rw [plW_n]
/-- A polynomial at a place. -/
def evF : List Fq → Fq → Fq
 | [], _ => 0
 | a :: c, x => evF c x * x + a
end Go.Proofs
