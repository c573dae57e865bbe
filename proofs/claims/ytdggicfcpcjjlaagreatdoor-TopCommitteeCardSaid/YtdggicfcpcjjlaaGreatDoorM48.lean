/- Part 48 of the texts below the row: Com28b, Law28b. -/
import Derived.Test.YtdggicfcpcjjlaaGreatDoorM1
import Derived.Test.YtdggicfcpcjjlaaGreatDoorM11
import Derived.Test.YtdggicfcpcjjlaaGreatDoorM13
import Derived.Test.YtdggicfcpcjjlaaGreatDoorM47
/- The law of a committee: its walk. -/
set_option autoImplicit false
namespace Go.Proofs
open Go.SL
attribute [local irreducible] J JL QOp JOp seqQ blockQ loopQ retQ slc cel hex star pur stars Does RV Ent pAt scopeQ JR seqR endR JLI DoesY
attribute [local irreducible] dlA gaA polyB
section
variable (E : World) [hE : LaidE E]
theorem topCommittee_ok (n t : Int) (hn : -9223372036854775808 ≤ n ∧ n ≤ 9223372036854775807) (ht : -9223372036854775808 ≤ t ∧ t ≤ 9223372036854775807) (P : SV) (rows : List SV) (cs : List (List W4)) (hcl : cs.length = rows.length)
 (hrow : ∀ i (h : i < rows.length) (h' : i < cs.length), (∀ k ∈ cs[i], k.ok) ∧ (cs[i]).length ≤ 9223372036854775807 ∧ ∀ g, slc tNm false rows[i] cs[i] E g) (A : SV) (az : List Int) :
 Does Tryz.prog E 4 [.agg #[.int .i64 n, .int .i64 t], P.v, A.v] [slc tNs false P rows, slc tZi false A az] fun v L => v = .bool true ∧ L = [] := by
 have haw := awake_ok E
 refine Does.of Tryz.func4 rfl Tryz.ntmps4 rfl rfl fun F => ?_
 refine Xb ?_
 refine L_o rfl rfl rfl (O_box rfl fun b3 => ?_)
 refine Xn ?_
 refine DH [0] [0,1,2,3,4,5] (.quiet 0 (.quiet 1 (.quiet 2 (.quiet 3 (.quiet 4 (.quiet 5 .done)))))) Tryz.mixed ?_
 refine XaX ?_
 refine XaX ?_
 refine Sq (Ent.re [0] rfl) rfl (Q_assign rfl) ?_
 refine Sq (Ent.re [0] rfl) rfl (Q_assign rfl) ?_
 refine XaY ?_
 refine J_seq ?_
 by_cases c1 : rows.length = 0
 ·skip
  refine Xe ?_
  refine XX ?_
  refine Xfc ?_
  refine Xb0 ?_
  refine Xah ?_
  refine Xb0 ?_
  refine Xah ?_
  refine Xcv ?_
  refine Xah ?_
  refine Xcf ?_
  refine XaP ?_
  refine XaZ ?_
  exact Xdd
 by_cases c2 : t < 0
 ·skip
  refine Xe ?_
  refine XX ?_
  refine Xb1 ?_
  refine Xdz ?_
  refine Xp ?_
  refine Xb0 ?_
  refine Xah ?_
  refine Xcv ?_
  refine Xah ?_
  refine Xcf ?_
  refine XaP ?_
  refine XaZ ?_
  exact Xdd
 by_cases c3 : 2 < t
 ·skip
  refine Xe ?_
  refine XX ?_
  refine Xb1 ?_
  refine XbX ?_
  refine Xp ?_
  refine Xf ?_
  refine XeK ?_
  refine Xcv ?_
  refine Xah ?_
  refine Xcf ?_
  refine XaP ?_
  refine XaZ ?_
  exact Xdd
 by_cases c4 : 3 < rows.length
 ·skip
  refine Xe ?_
  refine XX ?_
  refine Xb1 ?_
  refine XbX ?_
  refine Xp ?_
  refine Xf ?_
  refine XbF ?_
  refine Xf ?_
  refine XX ?_
  refine XfX ?_
  refine Xcf ?_
  refine XaP ?_
  refine XaZ ?_
  exact Xdd
 by_cases c5 : ¬ (az.length : Int) = t + 1
 ·skip
  refine Xe ?_
  refine XX ?_
  refine Xb1 ?_
  refine XbX ?_
  refine Xp ?_
  refine Xf ?_
  refine XbF ?_
  refine Xf ?_
  refine XX ?_
  refine XbE ?_
  refine Xf ?_
  refine XbN ?_
  refine Xd ?_
  refine XaM ?_
  refine Xei ?_
  refine Xp ?_
  refine Xm ?_
  refine XaZ ?_
  exact Xdd
 obtain ⟨t, rfl⟩ : ∃ m : Nat, t = (m : Int) := ⟨t.toNat, by omega⟩
 have ht2 : t ≤ 2 := by omega
 have hal : az.length = t + 1 := by omega
 have hrl : rows.length ≤ 3 := by omega
 refine Xe ?_
 refine XX ?_
 refine Xb1 ?_
 refine XbX ?_
 refine Xp ?_
 refine Xf ?_
 refine XbF ?_
 refine Xf ?_
 refine XX ?_
 refine XbE ?_
 refine Xf ?_
 refine XbN ?_
 refine Xd ?_
 refine XaM ?_
 refine XcC ?_
 refine Xan ?_
 refine Sr ?_
 refine XC ?_
 refine XC ?_
 refine Xn ?_
 refine Xa4 ?_
 refine J.ent ((Ent.stars_nil).trans ((Ent.mk fun _ _ h => (h.lay_nil tPs true : Sat _ _ (slc tPs true SV.nil [] :: _))).trans ((Ent.mk fun _ _ h => (h.lay_nil tN true : Sat _ _ (slc tN true SV.nil [] :: _))).trans (Ent.mk fun _ _ h => (h.lay_nil tDl true : Sat _ _ (slc tDl true SV.nil [] :: _)))))) ?_
 refine J_loop (fun i : SV × SV × SV × List Dl => i.2.2.2.length ≤ rows.length ∧ Made n t cs i.2.2.2) (fun i => [(1, P.v), (2, A.v), (7, .int .i64 n), (8, .int .i64 (t : Int)), (9, i.1.v), (10, i.2.1.v), (11, i.2.2.1.v), (12, .int .i64 (i.2.2.2.length : Int))])
  (fun i => [slc tDl true i.1 (i.2.2.2.map hdD), stars (i.2.2.2.map dlA), slc tN true i.2.1 (chZ i.2.2.2.length), slc tPs true i.2.2.1 (i.2.2.2.map hd0), slc tNs false P rows, slc tZi false A az, F]) (fun i => rows.length - i.2.2.2.length) (SV.nil, SV.nil, SV.nil, []) ⟨Nat.zero_le _, fun j h => by cases h⟩ ⟨rfl, rfl, rfl, rfl, rfl, rfl, rfl, rfl, trivial⟩ (Ent.re [0,3,1,2,5,6,7] rfl) ?_
 rintro ⟨D, CH, CM, ds⟩ ⟨hi, hmd⟩
 dsimp only at hi hmd ⊢
 by_cases h : ds.length < rows.length
 ·have hic : ds.length < cs.length := by omega
  obtain ⟨hco, hclen, hcg⟩ := hrow ds.length h hic
  have hpoly := poly_ok E false rows[ds.length] cs[ds.length] hco hclen
  refine Xad ?_
  refine Lq (Q_lenAt 4 rfl rfl) ?_
  refine XaW ?_
  refine Xac ?_
  refine J_seq ?_
  refine J_seq ?_
  refine J.lay hcg ?_
  cases hpb : polyB cs[ds.length] with
  | false =>
   rw [hpb] at hpoly
   refine Xl ?_
   refine XeB ?_
   refine L_o rfl rfl rfl (O_call [0] [1,2,3,4,5,6,7] hpoly rfl rfl ?_)
   rintro _ _ ⟨rfl, rfl⟩
   refine Xc ?_
   refine Xcl ?_
   refine Xm ?_
   refine XaZ ?_
   refine Xap ?_
   refine Xbc ?_
   refine XY ?_
   exact retQ_ret _ [] (.cons (RV_tmp rfl) .nil) ⟨rfl, rfl⟩ (Ent.re [7] rfl)
  | true =>
   rw [hpb] at hpoly
   obtain ⟨q1, q2, q3, q4⟩ := polyB_t hpb
   have hde := fun U => deals_ok E true false U rows[ds.length] cs[ds.length] n hn t ht2 (fun k hk => ⟨hco k hk, q4 k hk⟩) (by omega)
   refine Xl ?_
   refine XeB ?_
   refine L_o rfl rfl rfl (O_call [0] [1,2,3,4,5,6,7] hpoly rfl rfl ?_)
   rintro _ _ ⟨rfl, rfl⟩
   refine Xav ?_
   refine Xag ?_
   refine X7 ?_
   refine XeB ?_
   refine L_o rfl rfl rfl (O_litP (τ := tNs) (m := 1) (sz := 1) [rows[ds.length]] rfl rfl rfl rfl rfl rfl (by decide) (fun U => ?_))
   refine Xc ?_
   refine L_o rfl rfl rfl (O_call [0,1] [2,3,4,5,6,7,8] (hde U) rfl rfl ?_)
   rintro _ _ (⟨hB, rfl, rfl⟩ | ⟨hB, d, hd, rfl, rfl⟩)
   refine Xc ?_
   ·refine XK ?_
    refine L_o rfl rfl rfl (O_alloc fun b13 => ?_)
    refine Xz ?_
    refine XA ?_
    refine Xbq ?_
    refine Xm ?_
    refine XaZ ?_
    refine Xap ?_
    refine Xbc ?_
    refine XY ?_
    exact retQ_ret _ [] (.cons (RV_tmp rfl) .nil) ⟨rfl, rfl⟩ (Ent.re [9] rfl)
   ·refine XH ?_
    refine L_o rfl rfl rfl (O_alloc fun b13 => ?_)
    refine Xz ?_
    refine XA ?_
    refine XaQ ?_
    refine J_seq ?_
    refine J.ent (Ent.re [0,1,4,5,6,7,8,9,10] rfl) ?_
    have hmd2 := hmd.app d hic hd hpb hB
    have hcl1 := hd.clen
    have h0c : 0 < d.c.length := by rw [hcl1]; exact Nat.zero_lt_one
    have hg0 : (d.c.map (·.1))[0]'(by rw [List.length_map]; exact h0c) = hd0 d := (getD_eq _ _ _ _).symm
    refine Xe ?_
    refine X1 ?_
    refine L_o rfl rfl rfl (O_litP (τ := tDl) (m := 1) (sz := 2) [hdD d] rfl rfl rfl rfl rfl rfl (by decide) (fun L1 => ?_))
    refine Xc ?_
    refine L_o rfl rfl rfl (O_app (τ := tDl) 3 rfl (fun w h => h.rd 0 rfl) rfl rfl rfl rfl (by simp only [List.length_map, List.length_singleton]; omega) (by decide) (fun D2 => ?_))
    refine Xc ?_
    refine XT ?_
    refine Lq ((Q_add rfl rfl (IntWalk.i64_in _ (by omega))).as (v' := .int .i64 ((ds.length + 1 : Nat) : Int)) rfl) ?_
    refine L_o rfl rfl rfl (O_litP (τ := tN) (m := 1) (sz := 1) [ds.length + 1] rfl rfl rfl rfl rfl rfl (by decide) (fun L2 => ?_))
    refine Xc ?_
    refine L_o rfl rfl rfl (O_app (τ := tN) 6 rfl (fun w h => h.rd 0 rfl) rfl rfl rfl rfl (by rw [chZ_len, List.length_singleton]; omega) (by decide) (fun C2 => ?_))
    refine Xc ?_
    refine Xi ?_
    refine Xe ?_
    refine Xee ?_
    refine Lq (Q_ix (τ := tPs) 0 (fun w h => (h.dl1 3 rfl).rd 0 rfl) rfl rfl rfl (by rw [List.length_map]; exact h0c) rfl) ?_
    refine Lq (Q_ldE (τ := tPs) (v := (hd0 d).v) 0 0 (fun w h => (h.dl1 3 rfl).rd 0 rfl) rfl rfl rfl (by rw [List.length_map]; exact h0c) (by decide) (by rw [hg0]; rfl)) ?_
    refine L_o rfl rfl rfl (O_litP (τ := tPs) (m := 1) (sz := 1) [hd0 d] rfl rfl rfl rfl rfl rfl (by decide) (fun L3 => ?_))
    refine Xc ?_
    refine L_o rfl rfl rfl (O_app (τ := tPs) 8 rfl (fun w h => h.rd 0 rfl) rfl rfl rfl rfl (by simp only [List.length_map, List.length_singleton]; omega) (by decide) (fun M2 => ?_))
    refine Xc ?_
    refine Xj ?_
    refine XV ?_
    refine Xe ?_
    refine Lq ((Q_add rfl rfl (IntWalk.i64_in _ (by omega))).as (v' := .int .i64 ((ds.length + 1 : Nat) : Int)) rfl) ?_
    refine Xj ?_
    refine loopQ_normal (D2, C2, M2, ds ++ [d]) ⟨by show (ds ++ [d]).length ≤ _; rw [List.length_append, List.length_singleton]; omega, hmd2⟩ (by show _ - (ds ++ [d]).length < _ - ds.length; rw [List.length_append, List.length_singleton]; omega) ⟨rfl, rfl, rfl, rfl, rfl, rfl, rfl, by show some (Value.int .i64 ((ds.length + 1 : Nat) : Int)) = some (Value.int .i64 (((ds ++ [d]).length : Nat) : Int)); rw [List.length_append]; rfl, trivial⟩ ?_
    dsimp only
    rw [List.length_append, List.length_singleton, chZ_succ, show (ds ++ [d]).map hdD = ds.map hdD ++ [hdD d] by rw [List.map_append]; rfl, show (ds ++ [d]).map hd0 = ds.map hd0 ++ [hd0 d] by rw [List.map_append]; rfl]
    exact (Ent.re [4,6,5,7,8,9,10,11] rfl).trans ((Ent.last_in dlA ds d).trans (Ent.re [1,0,2,3,4,5,6] rfl))
 ·have hK : ds.length = rows.length := by omega
  have hKc : cs.length = ds.length := by omega
  refine Xad ?_
  refine Lq (Q_lenAt 4 rfl rfl) ?_
  refine XbY ?_
  refine Xb6 ?_
  refine J_seq ?_
  obtain ⟨hq, hlen0⟩ := dealB_t (hmd 0 (by omega) (by omega)).2.2
  have hq3 := quoB_le hq
  obtain ⟨N, rfl⟩ : ∃ m : Nat, n = (m : Int) := ⟨n.toNat, by omega⟩
  have hdeg : ∀ c ∈ cs, c.length = t + 1 := fun c hc => by
   obtain ⟨j, hj, rfl⟩ := List.getElem_of_mem hc
   exact (dealB_t (hmd j (by omega) hj).2.2).2
  have hds : DsOf ds N t cs := ⟨hKc, fun i hi => (hmd i hi (by omega)).1, hdeg⟩
  have hqs : ∀ c ∈ cs, ∀ k ∈ c, k.ok ∧ k.n < Nt.pQ := fun c hc k hk => by
   obtain ⟨j, hj, rfl⟩ := List.getElem_of_mem hc
   exact ⟨(hrow j (by omega) hj).1 k hk, (polyB_t (hmd j (by omega) hj).2.1).2.2.2 k hk⟩
  have hg := gnew_ok E t ht2 CM (ds.map hd0) (cs.map cmtL) (stars (ds.map dlA)) (by rw [List.length_map, List.length_map, hKc]) (fun w L h k hk hk' => by
   have hkd : k < ds.length := by rw [List.length_map] at hk; exact hk
   have hdo := hds.of k hkd
   have h0c : 0 < (ds[k]).c.length := by rw [hdo.clen]; exact Nat.zero_lt_one
   have h1 := (h.dl 0 rfl k hkd).rdR 1 rfl 0 h0c
   have e1 : (ds.map hd0)[k] = ((ds[k]).c[0]).1 := by
    rw [List.getElem_map]; unfold hd0; rw [getD_eq _ _ _ (by rw [List.length_map]; exact h0c), List.getElem_map]
   have e2 : (cs.map cmtL)[k] = ((ds[k]).c[0]).2 := by rw [List.getElem_map]; exact (hdo.cget 0 h0c Nat.zero_lt_one).symm
   rw [e1, e2]; exact h1) (fun r hr => by
   obtain ⟨c, hc, rfl⟩ := List.mem_map.1 hr
   rw [cmtL_len, hdeg c hc]) (by rw [List.length_map]; omega) (by rw [List.length_map]; omega)
  refine Xl ?_
  refine L_o rfl rfl rfl (O_call [3,1] [0,2,4,5,6] hg rfl rfl ?_)
  rintro _ _ ⟨p, g0, rfl, g1, g2, g3, rfl⟩
  refine XaJ ?_
  refine Xa4 ?_
  obtain ⟨pl, hpl⟩ : ∃ pl, pl = az.map Int.toNat := ⟨_, rfl⟩
  have hpll : pl.length = t + 1 := by rw [hpl, List.length_map, hal]
  have hst0 : GSt g0 t cs pl 0 0 := ⟨g1, g2, by rw [g3, gst_0, List.map_replicate, List.length_map], fun q hq _ => by rw [g3] at hq; rw [(List.mem_replicate.1 hq).2]⟩
  have hch : ∀ c ∈ chZ ds.length, 1 ≤ c ∧ c ≤ ds.length := fun c hc => by
   obtain ⟨j, hj, rfl⟩ := List.mem_map.1 hc
   exact ⟨Nat.succ_le_succ (Nat.zero_le _), List.mem_range.1 hj⟩
  refine J_loop (fun i : Nat × Ga => i.1 ≤ t + 1 ∧ (∀ j (h : j < az.length), j < i.1 → 1 ≤ az[j] ∧ az[j] ≤ N) ∧ (∀ j k (hj : j < az.length) (hk : k < az.length), j < k → k < i.1 → az[j] ≠ az[k]) ∧ GSt i.2 t cs pl i.1 0) (fun i => [(1, P.v), (2, A.v), (7, .int .i64 (N : Int)), (8, .int .i64 (t : Int)), (9, D.v), (10, CH.v), (15, .pointer (some ⟨p, 0, none⟩)), (16, .int .i64 (i.1 : Int))])
   (fun i => [gaA p i.2, slc tDl true D (ds.map hdD), stars (ds.map dlA), slc tN true CH (chZ ds.length), slc tNs false P rows, slc tZi false A az, F]) (fun i => t + 1 - i.1) (0, g0) ⟨Nat.zero_le _, fun j _ h => absurd h (Nat.not_lt_zero j), fun j k _ _ _ h => absurd h (Nat.not_lt_zero k), hst0⟩ ⟨rfl, rfl, rfl, rfl, rfl, rfl, rfl, rfl, trivial⟩ (Ent.re [0,3,2,4,5,6,7] rfl) ?_
  clear hst0 g1 g2 g3 hg
  rintro ⟨i, g⟩ ⟨hit, hrg, hdj, hst⟩
  dsimp only at hit hrg hdj hst ⊢
  by_cases hi1 : i < t + 1
  ·have hia : i < az.length := by omega
   refine Xad ?_
   refine Lq ((Q_lenAt 5 rfl rfl).as (v' := .int .i64 ((t + 1 : Nat) : Int)) (by rw [hal])) ?_
   refine XaW ?_
   refine Xac ?_
   refine J_seq ?_
   refine J_seq ?_
   by_cases b1 : az[i] < 1
   ·skip
    refine Xl ?_
    refine Xc5 ?_
    refine Xdz ?_
    refine XbJ ?_
    refine Xa7 ?_
    refine XaP ?_
    refine XaZ ?_
    refine Xap ?_
    refine Xbc ?_
    exact XeM
   by_cases b2 : (N : Int) < az[i]
   ·skip
    refine Xl ?_
    refine Xc5 ?_
    refine Xb2 ?_
    refine Xd ?_
    refine Xc5 ?_
    refine Xd ?_
    refine XeK ?_
    refine Xm ?_
    refine XaZ ?_
    refine Xap ?_
    refine Xbc ?_
    exact XeM
   refine Xl ?_
   refine Xc5 ?_
   refine Xb2 ?_
   refine Xd ?_
   refine Xc5 ?_
   refine Xd ?_
   refine XbF ?_
   refine Xay ?_
   refine Xa4 ?_
   refine J_loop (fun j : Nat => j ≤ i ∧ ∀ k (hk : k < az.length), k < j → az[k] ≠ az[i]) (fun j => [(1, P.v), (2, A.v), (7, .int .i64 (N : Int)), (8, .int .i64 (t : Int)), (9, D.v), (10, CH.v), (15, .pointer (some ⟨p, 0, none⟩)), (16, .int .i64 (i : Int)), (17, .int .i64 (j : Int))])
    (fun _ => [gaA p g, slc tDl true D (ds.map hdD), stars (ds.map dlA), slc tN true CH (chZ ds.length), slc tNs false P rows, slc tZi false A az, F]) (fun j => i - j) 0 ⟨Nat.zero_le _, fun k _ h => absurd h (Nat.not_lt_zero k)⟩ ⟨rfl, rfl, rfl, rfl, rfl, rfl, rfl, rfl, rfl, trivial⟩ (Ent.refl _) ?_
   rintro j ⟨hji, hne⟩
   by_cases hj1 : j < i
   ·have hja : j < az.length := by omega
    refine Xad ?_
    refine XaW ?_
    refine Xac ?_
    refine J_seq ?_
    by_cases he : az[j] = az[i]
    ·skip
     refine XfA ?_
     refine Xft ?_
     refine XeG ?_
     refine Xfu ?_
     refine Sq (Ent.re [5] rfl) rfl ((Q_eql rfl rfl).as (v' := .bool true) (congrArg Value.bool (decide_eq_true ((he))))) ?_
     refine Xu ?_
     refine J_condT rfl ?_
     refine XaZ ?_
     refine Xq ?_
     refine Xbc ?_
     refine XY ?_
     refine Xbc ?_
     exact XeM
    ·skip
     refine XfA ?_
     refine Xft ?_
     refine XeG ?_
     refine Xfu ?_
     refine Sq (Ent.re [5] rfl) rfl ((Q_eql rfl rfl).as (v' := .bool false) (congrArg Value.bool (decide_eq_false ((he))))) ?_
     refine Xax ?_
     refine Xbe ?_
     refine Xe ?_
     refine Xfd ?_
     refine Xj ?_
     exact loopQ_normal (j + 1) ⟨by omega, fun k hk h => by
      by_cases e : k = j
      ·subst e; exact he
      ·exact hne k hk (by omega)⟩ (by omega) ⟨rfl, rfl, rfl, rfl, rfl, rfl, rfl, rfl, rfl, trivial⟩ (Ent.refl _)
   ·obtain rfl : j = i := by omega
    refine Xad ?_
    refine XbY ?_
    refine Xb6 ?_
    refine J_seq ?_
    obtain ⟨m, hm⟩ : ∃ m : Nat, az[j] = ((m + 1 : Nat) : Int) := ⟨(az[j]).toNat - 1, by omega⟩
    have hmN : m < N := by omega
    have hjp : j < pl.length := by omega
    have hplj : pl[j] = m + 1 := by
     have : pl[j] = (az[j]).toNat := by subst hpl; exact List.getElem_map ..
     rw [this, hm]; rfl
    have hpd : ∀ k (h1 : k < j) (h2 : k < pl.length), pl[k] ≠ pl[j] := fun k h1 h2 e => by
     have hka : k < az.length := by omega
     have e1 : pl[k] = (az[k]).toNat := by subst hpl; exact List.getElem_map ..
     have := (hrg k hka h1).1
     have := hne k hka h1
     rw [hplj, e1] at e
     omega
    have hmine := mine_ok E N t (by omega) D CH ds cs hds (by omega) (chZ ds.length) hch (by rw [chZ_len]; omega) m hmN
    rw [show (chZ ds.length).map (fun c => valW (pol cs c) (m + 1)) = cs.map fun c => valW c (m + 1) by rw [← hKc]; exact chZ_pol cs (m + 1)] at hmine
    refine Xl ?_
    refine Xf ?_
    refine Lq (Q_ixAt 5 j rfl rfl rfl rfl hia rfl) ?_
    refine Lq (Q_ldEAt 5 j 0 (v := .int .i64 ((m + 1 : Nat) : Int)) rfl rfl rfl rfl hia (by decide) (by rw [hm]; rfl)) ?_
    refine L_o rfl rfl rfl (O_call [1,2,3] [0,4,5,6] hmine rfl rfl ?_)
    rintro _ _ ⟨T, rfl, rfl⟩
    refine XH ?_
    refine XaK ?_
    refine J_seq ?_
    refine J.ent (Ent.re [4,0,1,2,3,5,6,7] rfl) ?_
    refine Xe ?_
    refine Xbq ?_
    refine Xf ?_
    refine Xfe ?_
    refine Xd ?_
    refine Lq ((Q_lenAt 5 rfl rfl).as (v' := .int .i64 (ds.length : Int)) (by rw [hK])) ?_
    refine XcC ?_
    refine Xan ?_
    refine Xa4 ?_
    refine J_loop (fun k : Nat × Ga => k.1 ≤ ds.length ∧ GSt k.2 t cs pl j k.1) (fun k => [(1, P.v), (2, A.v), (7, .int .i64 (N : Int)), (8, .int .i64 (t : Int)), (9, D.v), (10, CH.v), (15, .pointer (some ⟨p, 0, none⟩)), (16, .int .i64 (j : Int)), (18, T.v), (20, .int .i64 (k.1 : Int))])
     (fun k => [gaA p k.2, slc tNm true T (cs.map fun c => valW c (m + 1)), slc tDl true D (ds.map hdD), stars (ds.map dlA), slc tN true CH (chZ ds.length), slc tNs false P rows, slc tZi false A az, F]) (fun k => ds.length - k.1) (0, g) ⟨Nat.zero_le _, hst⟩ ⟨rfl, rfl, rfl, rfl, rfl, rfl, rfl, rfl, rfl, rfl, trivial⟩ (Ent.refl _) ?_
    clear hst
    rintro ⟨k, g⟩ ⟨hk, hst⟩
    dsimp only at hk hst ⊢
    by_cases hk1 : k < ds.length
    ·have hkc : k < cs.length := by omega
     have hkk : k < g.k.length := by rw [hst.klen]; exact hkc
     have hkg : k < g.c.length := by rw [hst.clen]; exact hkc
     have hkm : k < (cs.map fun c => valW c (m + 1)).length := by rw [List.length_map]; exact hkc
     have hsh := hst.kget k hkk
     rw [if_neg (Nat.lt_irrefl k)] at hsh
     have hcm := List.getElem_mem hkc
     have hgt := hst.t
     have hput := gput_ok E p g k hkk hkg (by rw [hst.klen]; omega) (fun h => hst.nil _ (List.getElem_mem hkk) h) (m + 1) (valW cs[k] (m + 1)) (by rw [hsh, shrF_len, List.length_take, hgt]; omega) (by omega) (by rw [hsh, ← hplj]; exact shrF_no _ pl j hjp hpd) (ver_ok E cs[k] (hqs _ hcm) (by rw [hdeg _ hcm]; omega) (by rw [hdeg _ hcm]; omega) (m + 1) (by omega) (by omega) (g.c[k]).2 (hst.cget k hkg hkc))
     have hnx := fun S' => hst.put hjp hkc S'
     rw [hplj, getD_eq _ _ _ hkc] at hnx
     have hvg : (cs.map fun c => valW c (m + 1))[k]'hkm = valW cs[k] (m + 1) := List.getElem_map ..
     generalize valW cs[k] (m + 1) = vw at *
     refine Xad ?_
     refine Xfe ?_
     refine XaW ?_
     refine Xac ?_
     refine J_seq ?_
     refine DH [1,6] [0,1,2,3,4,5,6,7,8,9,10,12] (.quiet 0 (.quiet 1 (.quiet 2 (.quiet 3 (.quiet 4 (.quiet 5 (.quiet 6 (.quiet 7 (.quiet 8 (.quiet 9 (.quiet 10 (.loud 11 (.quiet 12 .done))))))))))))) Tryz.mixed ?_
     refine XeV ?_
     refine XeV ?_
     refine Sq (Ent.re [1,6] rfl) rfl (Q_ixAt 1 j rfl rfl rfl rfl hia rfl) ?_
     refine Sq (Ent.re [1,6] rfl) rfl (Q_ldEAt 1 j 0 (v := .int .i64 ((m + 1 : Nat) : Int)) rfl rfl rfl rfl hia (by decide) (by rw [hm]; rfl)) ?_
     refine XeV ?_
     refine Sq (Ent.re [1,6] rfl) rfl (Q_ixAt 0 k rfl rfl rfl rfl hkm rfl) ?_
     refine Sq (Ent.re [1,6] rfl) rfl (Q_ldEAAt 0 k 0 (vs := vw.l) rfl rfl rfl rfl hkm (Nat.le_refl 4) (by rw [hvg]; rfl)) ?_
     refine Sq (Ent.re [1,6] rfl) rfl (Q_build rfl) ?_
     refine S_o rfl rfl rfl rfl (O_call [0] [1,2,3,4,5,6,7] hput rfl rfl ?_)
     (rintro _ _ ⟨S', rfl, rfl⟩; refine ⟨_, fun _ => ⟨Ent.reN [1,6] rfl, Ent.refl _⟩, ?_⟩)
     refine Xa ?_
     refine Sq (Ent.re [1,6] rfl) rfl ((Q_not (b := true) rfl).as (v' := .bool false) rfl) ?_
     refine Xax ?_
     refine Xbe ?_
     refine Xe ?_
     refine Lq ((Q_add rfl rfl (IntWalk.i64_in _ (by omega))).as (v' := .int .i64 ((k + 1 : Nat) : Int)) rfl) ?_
     refine Xj ?_
     exact loopQ_normal (k + 1, putG g k S' (m + 1, vw)) ⟨by show k + 1 ≤ _; omega, hnx S'⟩ (by show _ - (k + 1) < _ - k; omega) ⟨rfl, rfl, rfl, rfl, rfl, rfl, rfl, rfl, rfl, rfl, trivial⟩ (Ent.refl _)
    ·obtain rfl : k = ds.length := by omega
     rw [← hKc] at hst
     have hst2 := hst.next
     refine Xad ?_
     refine Xfe ?_
     refine XbY ?_
     refine XbA ?_
     refine XV ?_
     refine Xe ?_
     refine Xfd ?_
     refine Xj ?_
     exact loopQ_normal (j + 1, g) ⟨by show j + 1 ≤ _; omega, fun q hq h => by
      by_cases e : q = j
      ·subst e; exact ⟨by omega, by omega⟩
      ·exact hrg q hq (by have : q < j + 1 := h; omega), fun q r hq hr h1 h2 => by
      by_cases e : r = j
      ·subst e; exact hne q hq h1
      ·exact hdj q r hq hr h1 (by have : r < j + 1 := h2; omega), hst2⟩ (by show _ - (j + 1) < _ - j; omega) ⟨rfl, rfl, rfl, rfl, rfl, rfl, rfl, rfl, trivial⟩ (Ent.re [0,2,3,4,5,6,7] rfl)
  ·obtain rfl : i = t + 1 := by omega
   have hno : Nodes pl t := ⟨hpll, fun a ha => by
    subst hpl
    obtain ⟨z, hz, rfl⟩ := List.mem_map.1 ha
    obtain ⟨q, hq, rfl⟩ := List.getElem_of_mem hz
    have := (hrg q hq (by omega)).1
    omega, fun a ha => by
    subst hpl
    obtain ⟨z, hz, rfl⟩ := List.mem_map.1 ha
    obtain ⟨q, hq, rfl⟩ := List.getElem_of_mem hz
    have := (hrg q hq (by omega)).2
    omega, by
    rw [List.nodup_iff_pairwise_ne, List.pairwise_iff_getElem]
    intro q r hq hr hqr e
    subst hpl
    rw [List.length_map] at hq hr
    rw [List.getElem_map, List.getElem_map] at e
    have := (hrg q hq (by omega)).1
    have := (hrg r hr (by omega)).1
    have := hdj q r hq hr hqr (by omega)
    omega⟩
   have hkey := gkey_ok E p g (by rw [hst.t]; omega) (by rw [hst.klen]; omega) (by rw [hst.t]; exact full_of ht2 hno g.k hst.k)
   have hkeys := keys_ok E N t ht2 D CH ds cs hds (by omega) (chZ ds.length) hch (by rw [chZ_len]; omega) (fun e => by have := congrArg List.length e; rw [chZ_len, List.length_nil] at this; omega)
   have hbase := base_ok E (ws (keyF g.k)) (ws_ok _)
   rw [keys_same ht2 hno hdeg g.k hst.k, hKc] at hbase
   have heq := eqvPt (pw_ok (kP (keyN cs (chZ ds.length)) gP)) (pw_ok (kP (keyN cs (chZ ds.length)) gP))
   rw [decide_eq_true rfl] at heq
   generalize pw (kP (keyN cs (chZ ds.length)) gP) = pK at *
   generalize ws (keyF g.k) = kw at *
   obtain ⟨ka, kb, kc, kd⟩ := kw
   refine Xad ?_
   refine Lq ((Q_lenAt 5 rfl rfl).as (v' := .int .i64 ((t + 1 : Nat) : Int)) (by rw [hal])) ?_
   refine XbY ?_
   refine Xb6 ?_
   refine Xg ?_
   refine L_o rfl rfl rfl (O_call [0] [1,2,3,4,5,6] hkey rfl rfl ?_)
   rintro _ _ ⟨rfl, rfl⟩
   refine XH ?_
   refine L_o rfl rfl rfl (O_alloc fun b21 => ?_)
   refine Xz ?_
   refine XT ?_
   refine L_o rfl rfl rfl (O_call [2,3,4] [0,1,5,6,7] hkeys rfl rfl ?_)
   rintro _ _ ⟨T, rfl, rfl⟩
   refine XaJ ?_
   refine J.ent (Ent.re [0,4,8] rfl) ?_
   refine DH [0,1] [0,1,2,3,4,5,6,7,8,9,10,11,13,14,15,17,18] (.quiet 0 (.quiet 1 (.quiet 2 (.quiet 3 (.quiet 4 (.quiet 5 (.quiet 6 (.quiet 7 (.quiet 8 (.quiet 9 (.quiet 10 (.quiet 11 (.loud 12 (.quiet 13 (.quiet 14 (.quiet 15 (.loud 16 (.quiet 17 (.quiet 18 .done))))))))))))))))))) Tryz.mixed ?_
   refine XaC ?_
   refine Sq (Ent.re [0,1] rfl) rfl ((Q_eql rfl rfl).as (v' := .bool true) rfl) ?_
   refine Xb7 ?_
   refine Sq (Ent.re [0,1] rfl) rfl ((Q_lenAt 0 rfl rfl).as (v' := .int .i64 1) rfl) ?_
   refine Sq (Ent.re [0,1] rfl) rfl ((Q_eql rfl rfl).as (v' := .bool true) rfl) ?_
   refine Sq (Ent.re [0,1] rfl) rfl ((Q_pickT rfl rfl)) ?_
   refine Xb7 ?_
   refine Sq (Ent.re [0,1] rfl) rfl (Q_ixAt 0 0 rfl rfl rfl rfl Nat.zero_lt_one rfl) ?_
   refine Sq (Ent.re [0,1] rfl) rfl (Q_ldEAAt 0 0 0 (vs := pK.l) rfl rfl rfl rfl Nat.zero_lt_one (Nat.le_refl 9) rfl) ?_
   refine Sq (Ent.re [0,1] rfl) rfl (Q_ldA 1 rfl rfl rfl) ?_
   refine S_o rfl rfl rfl rfl (O_callP (hbase) rfl ⟨_, fun _ => ⟨Ent.reN [0,1] rfl, Ent.refl _⟩, ?_⟩)
   refine Xa ?_
   refine Sq (Ent.re [0,1] rfl) rfl (Q_geql eqgPt heq rfl rfl) ?_
   refine Sq (Ent.re [0,1] rfl) rfl ((Q_pickT rfl rfl)) ?_
   refine XaC ?_
   refine S_o rfl rfl rfl rfl (O_callP (haw) rfl ⟨_, fun _ => ⟨Ent.reN [0,1] rfl, Ent.refl _⟩, ?_⟩)
   refine Xa ?_
   refine Sq (Ent.re [0,1] rfl) rfl ((Q_pickT rfl rfl)) ?_
   refine Sq (Ent.re [0,1] rfl) rfl (Q_assign rfl) ?_
   refine Xu ?_
   refine J_ret ?_
   exact retQ_ret _ [] (.cons (RV_tmp rfl) .nil) ⟨rfl, rfl⟩ (Ent.re [2] rfl)
end
end Go.Proofs
/- The law TopCommittee, from its arguments' readings. -/
set_option autoImplicit false
namespace Go.Proofs
open Go.SL Go.RowKit
theorem nums_in {W : World} {vs : List Value} (h : CellRows W (List.replicate 4 (.int .u64)) vs) : ∃ S : SV, vs = tNs.enc S ∧ ∃ c : List W4, (∀ k ∈ c, k.ok) ∧ c.length ≤ maxLen ∧ ∀ g, slc tNm false S c W g := by
 obtain ⟨v, rfl, h⟩ := h
 obtain ⟨S, c, rfl, _, h1, h2, h3⟩ := h.slc tNm (ok := fun k => k.ok) (fun r hr => by
  obtain ⟨x, e, hx⟩ := num_in hr
  exact ⟨x, e, hx⟩)
 exact ⟨S, rfl, c, h2, h1, h3⟩
theorem committee_calls (W : World) (v0 v1 v2 : Value) (h0 : InStruct [.int .i64, .int .i64] v0) (h1 : InRowsR W (CellRows W (List.replicate 4 (.int .u64))) v1) (h2 : InRows W [.int .i64] v2) (hL : LaidE W) : Calls Tryz.prog 4 #[v0, v1, v2] W fun e w' => e = .returned (.bool true) ∧ Below W.heap.size W w' := by
 obtain ⟨vs, rfl, h⟩ := h0
 obtain ⟨n, r, rfl, hn, h⟩ := leafs_int h
 obtain ⟨t, r, rfl, ht, h⟩ := leafs_int h
 obtain rfl := leafs_nil h
 obtain ⟨P, rows, rfl, _, _, hr, g1⟩ := h1.slc tNs (ok := fun S => ∃ c : List W4, (∀ k ∈ c, k.ok) ∧ c.length ≤ maxLen ∧ ∀ g, slc tNm false S c W g) (fun r hr => nums_in hr)
 obtain ⟨A, az, rfl, _, _, _, g2⟩ := h2.slc tZi (ok := fun _ => True) (fun r hr => by
  obtain ⟨a, r, rfl, _, h⟩ := leafs_int hr
  obtain rfl := leafs_nil h
  exact ⟨a, rfl, trivial⟩)
 obtain ⟨cs, hcl, hcs⟩ := choose_list (fun S (c : List W4) => (∀ k ∈ c, k.ok) ∧ c.length ≤ maxLen ∧ ∀ g, slc tNm false S c W g) rows hr
 refine law_calls (topCommittee_ok W n t (wf_i64 hn) (wf_i64 ht) P rows cs hcl (fun i h h' => by
  obtain ⟨q1, q2, q3⟩ := hcs i h h'
  exact ⟨q1, q2, q3⟩) A az) (fun v L h => h.1) ?_
 intro c hc
 rcases List.mem_cons.1 hc with rfl | hc
 ·exact g1
 ·rw [List.mem_singleton.1 hc]; exact g2
end Go.Proofs
