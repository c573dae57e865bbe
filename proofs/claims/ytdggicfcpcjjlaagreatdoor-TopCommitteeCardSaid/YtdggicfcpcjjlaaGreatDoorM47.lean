/- Part 47 of the texts below the row: Wrong28, Wrong28b, Law28a, Com28P, Com28. -/
import Derived.Test.YtdggicfcpcjjlaaGreatDoorM1
import Derived.Test.YtdggicfcpcjjlaaGreatDoorM11
import Derived.Test.YtdggicfcpcjjlaaGreatDoorM13
import Derived.Test.YtdggicfcpcjjlaaGreatDoorM46
/- The law of a file and a wrong key, walked. -/
set_option autoImplicit false
namespace Go.Proofs
open Go.SL
attribute [local irreducible] J JL QOp JOp seqQ blockQ loopQ retQ slc cel hex star pur stars Does RV Ent pAt scopeQ JR seqR endR JLI DoesY
section
variable (E : World)
theorem poly_ok (f : Bool) (S : SV) (c : List W4) (hc : ∀ k ∈ c, k.ok) (hl : c.length ≤ 9223372036854775807) : Does Tryz.prog E 5 [S.v] [slc tNm f S c] fun v L => v = .bool (polyB c) ∧ L = [slc tNm f S c] := by
 refine Does.of Tryz.func5 rfl Tryz.ntmps5 rfl rfl fun F => ?_
 refine Xb ?_
 refine Xbj ?_
 by_cases h1 : c.length = 0
 ·rw [show polyB c = false from polyB_f fun h => by have := h.1; omega]
  refine Xe ?_
  refine XO ?_
  refine Xfc ?_
  refine Xcv ?_
  refine Xah ?_
  refine Xcf ?_
  refine XaP ?_
  refine Sr ?_
  refine Xap ?_
  exact Xcj
 ·by_cases h3 : 3 < c.length
  ·rw [show polyB c = false from polyB_f fun h => by have := h.2.1; omega]
   refine Xe ?_
   refine XO ?_
   refine Xb1 ?_
   refine XO ?_
   refine XfX ?_
   refine Xcf ?_
   refine XaP ?_
   refine Sr ?_
   refine Xap ?_
   exact Xcj
  ·have h0 : 0 < c.length := by omega
   have hk0 := hc _ (List.getElem_mem h0)
   have hgd : c.getD 0 z4 = c[0] := getD_eq _ _ _ h0
   have hq := eqvN hk0 z4_ok
   by_cases hz : (c[0]).n = z4.n
   ·rw [decide_eq_true hz] at hq
    rw [show polyB c = false from polyB_f fun h => h.2.2.1 (by rw [hgd]; exact hz)]
    refine Xe ?_
    refine XO ?_
    refine Xb1 ?_
    refine XO ?_
    refine XbE ?_
    refine Xf ?_
    refine XfV ?_
    refine Xk ?_
    refine Lq (Q_geql eqgN hq rfl rfl) ?_
    refine Xp ?_
    refine Xm ?_
    refine Sr ?_
    refine Xap ?_
    exact Xcj
   ·rw [decide_eq_false hz] at hq
    refine Xe ?_
    refine XO ?_
    refine Xb1 ?_
    refine XO ?_
    refine XbE ?_
    refine Xf ?_
    refine XfV ?_
    refine Xk ?_
    refine Lq (Q_geql eqgN hq rfl rfl) ?_
    refine XbU ?_
    refine Xa4 ?_
    refine J_loop (fun i : Nat => i ≤ c.length ∧ ∀ j (hj : j < c.length), j < i → (c[j]).n < Nt.pQ) (fun i => [(0, S.v), (3, .int .i64 (i : Int))]) (fun _ => [slc tNm f S c, F]) (fun i => c.length - i) 0 ⟨Nat.zero_le _, fun j _ h => by omega⟩ ⟨rfl, rfl, trivial⟩ (Ent.refl _) ?_
    rintro i ⟨hi, hall⟩
    by_cases h : i < c.length
    ·have hv := rvalid_ok E c[i] (hc _ (List.getElem_mem h))
     by_cases hlt : (c[i]).n < Nt.pQ
     ·rw [decide_eq_true hlt] at hv
      refine Xad ?_
      refine XO ?_
      refine XaW ?_
      refine Xac ?_
      refine Xv ?_
      refine XfS ?_
      refine L_o rfl rfl rfl (O_callP (hv) rfl ?_)
      refine XbO ?_
      refine XaI ?_
      refine XV ?_
      refine Xe ?_
      refine Lq ((Q_add rfl rfl (IntWalk.i64_in _ (by omega))).as (v' := .int .i64 ((i + 1 : Nat) : Int)) rfl) ?_
      refine Xj ?_
      exact loopQ_normal (i + 1) ⟨by omega, fun j hj h2 => by
       by_cases e : j = i
       ·subst e; exact hlt
       ·exact hall j hj (by omega)⟩ (by omega) ⟨rfl, rfl, trivial⟩ (Ent.refl _)
     ·rw [decide_eq_false hlt] at hv
      rw [show polyB c = false from polyB_f fun h' => hlt (h'.2.2.2 _ (List.getElem_mem h))]
      refine Xad ?_
      refine XO ?_
      refine XaW ?_
      refine Xac ?_
      refine Xv ?_
      refine XfS ?_
      refine L_o rfl rfl rfl (O_callP (hv) rfl ?_)
      refine Xcl ?_
      refine Xm ?_
      refine Xaf ?_
      refine Xbc ?_
      refine XY ?_
      exact Xcj
    ·obtain rfl : i = c.length := by omega
     rw [show polyB c = true from polyB_of (by omega) (by omega) (by rw [hgd]; exact hz) fun k hk => by
      obtain ⟨j, hj, rfl⟩ := List.getElem_of_mem hk
      exact hall j hj hj]
     refine Xad ?_
     refine XO ?_
     refine XbY ?_
     refine Xb6 ?_
     refine Xaf ?_
     exact Xcj
end
end Go.Proofs
/- The law of a file and a wrong key: its walk. -/
set_option autoImplicit false
namespace Go.Proofs
open Go.SL
theorem one_t {a : W4} (h : polyB [a] = true) : a.n ≠ 0 ∧ a.n < Nt.pQ := by
 obtain ⟨_, _, h1, h2⟩ := polyB_t h
 exact ⟨h1, h2 a (List.mem_singleton.2 rfl)⟩
attribute [local irreducible] J JL QOp JOp seqQ blockQ loopQ retQ slc cel hex star pur stars Does RV Ent pAt scopeQ JR seqR endR JLI DoesY
attribute [local irreducible] fileS encP polyB
section
variable (E : World) [hE : LaidE E]
theorem topWrong_ok (a b r : W4) (ha : a.ok) (hb : b.ok) (hr : r.ok) : Does Tryz.prog E 3 [a.v, b.v, r.v] [] fun v L => v = .bool true ∧ L = [] := by
 have haw := awake_ok E
 have p1 := fun S => poly_ok E true S [a] (fun k hk => by rw [List.mem_singleton.1 hk]; exact ha) (by show 1 ≤ 9223372036854775807; decide)
 have p2 := fun S => poly_ok E true S [b] (fun k hk => by rw [List.mem_singleton.1 hk]; exact hb) (by show 1 ≤ 9223372036854775807; decide)
 have p3 := fun S => poly_ok E true S [r] (fun k hk => by rw [List.mem_singleton.1 hk]; exact hr) (by show 1 ≤ 9223372036854775807; decide)
 cases h1 : polyB [a] with
 | false =>
  rw [h1] at p1
  clear p2 p3
  obtain ⟨a0, a1, a2, a3⟩ := a
  obtain ⟨e0, e1, e2, e3⟩ := b
  obtain ⟨r0, r1, r2, r3⟩ := r
  refine Does.of Tryz.func3 rfl Tryz.ntmps3 rfl rfl fun F => ?_
  refine Xb ?_
  refine L_o rfl rfl rfl (O_box rfl fun b3 => ?_)
  refine L_o rfl rfl rfl (O_box rfl fun b4 => ?_)
  refine L_o rfl rfl rfl (O_box rfl fun b5 => ?_)
  refine Xn ?_
  refine XZ ?_
  refine L_o rfl rfl rfl (O_litP (τ := tNm) (m := 1) (sz := 4) [⟨a0, a1, a2, a3⟩] rfl rfl rfl rfl rfl rfl (by decide) (fun S1 => ?_))
  refine Xdn ?_
  rintro _ _ ⟨rfl, rfl⟩
  refine Xc ?_
  refine Xcl ?_
  refine XbJ ?_
  refine Xah ?_
  refine XbJ ?_
  refine XaP ?_
  refine XaZ ?_
  refine Xap ?_
  exact retQ_ret _ [] (.cons (RV_tmp rfl) .nil) ⟨rfl, rfl⟩ (Ent.re [4] rfl)
 | true =>
 rw [h1] at p1
 obtain ⟨a0', alt⟩ := one_t h1
 cases h2 : polyB [b] with
 | false =>
  rw [h2] at p2
  clear p3
  obtain ⟨a0, a1, a2, a3⟩ := a
  obtain ⟨e0, e1, e2, e3⟩ := b
  obtain ⟨r0, r1, r2, r3⟩ := r
  refine Does.of Tryz.func3 rfl Tryz.ntmps3 rfl rfl fun F => ?_
  refine Xb ?_
  refine L_o rfl rfl rfl (O_box rfl fun b3 => ?_)
  refine L_o rfl rfl rfl (O_box rfl fun b4 => ?_)
  refine L_o rfl rfl rfl (O_box rfl fun b5 => ?_)
  refine Xn ?_
  refine XZ ?_
  refine L_o rfl rfl rfl (O_litP (τ := tNm) (m := 1) (sz := 4) [⟨a0, a1, a2, a3⟩] rfl rfl rfl rfl rfl rfl (by decide) (fun S1 => ?_))
  refine Xdn ?_
  rintro _ _ ⟨rfl, rfl⟩
  refine Xav ?_
  refine Xbv ?_
  refine L_o rfl rfl rfl (O_litP (τ := tNm) (m := 1) (sz := 4) [⟨e0, e1, e2, e3⟩] rfl rfl rfl rfl rfl rfl (by decide) (fun S2 => ?_))
  refine Xd5 ?_
  rintro _ _ ⟨rfl, rfl⟩
  refine Xc ?_
  refine Xcl ?_
  refine Xp ?_
  refine XbJ ?_
  refine XaP ?_
  refine XaZ ?_
  refine Xap ?_
  exact retQ_ret _ [] (.cons (RV_tmp rfl) .nil) ⟨rfl, rfl⟩ (Ent.re [5] rfl)
 | true =>
 rw [h2] at p2
 obtain ⟨b0', blt⟩ := one_t h2
 cases h3 : polyB [r] with
 | false =>
  rw [h3] at p3
  obtain ⟨a0, a1, a2, a3⟩ := a
  obtain ⟨e0, e1, e2, e3⟩ := b
  obtain ⟨r0, r1, r2, r3⟩ := r
  refine Does.of Tryz.func3 rfl Tryz.ntmps3 rfl rfl fun F => ?_
  refine Xb ?_
  refine L_o rfl rfl rfl (O_box rfl fun b3 => ?_)
  refine L_o rfl rfl rfl (O_box rfl fun b4 => ?_)
  refine L_o rfl rfl rfl (O_box rfl fun b5 => ?_)
  refine Xn ?_
  refine XZ ?_
  refine L_o rfl rfl rfl (O_litP (τ := tNm) (m := 1) (sz := 4) [⟨a0, a1, a2, a3⟩] rfl rfl rfl rfl rfl rfl (by decide) (fun S1 => ?_))
  refine Xdn ?_
  rintro _ _ ⟨rfl, rfl⟩
  refine Xav ?_
  refine Xbv ?_
  refine L_o rfl rfl rfl (O_litP (τ := tNm) (m := 1) (sz := 4) [⟨e0, e1, e2, e3⟩] rfl rfl rfl rfl rfl rfl (by decide) (fun S2 => ?_))
  refine Xd5 ?_
  rintro _ _ ⟨rfl, rfl⟩
  refine Xav ?_
  refine Xp ?_
  refine Xbv ?_
  refine L_o rfl rfl rfl (O_litP (τ := tNm) (m := 1) (sz := 4) [⟨r0, r1, r2, r3⟩] rfl rfl rfl rfl rfl rfl (by decide) (fun S3 => ?_))
  refine Xe2 ?_
  rintro _ _ ⟨rfl, rfl⟩
  refine Xc ?_
  refine Xcl ?_
  refine Xp ?_
  refine Xm ?_
  refine XaZ ?_
  refine Xap ?_
  exact retQ_ret _ [] (.cons (RV_tmp rfl) .nil) ⟨rfl, rfl⟩ (Ent.re [6] rfl)
 | true =>
 rw [h3] at p3
 obtain ⟨r0', rlt⟩ := one_t h3
 obtain ⟨PA, hPA⟩ := some_mul (k := a.n) (by omega) alt
 obtain ⟨PB, hPB⟩ := some_mul (k := r.n) (by omega) rlt
 have hbase := base_ok E a ha
 have hseal := (seal_ok E (pw (kP a.n gP)) (pw_ok _) r hr rlt r0' (kP a.n gP) (own_pw _) PA hPA PB hPB abc (by decide) (by decide)).mono fun _ _ h => And.intro h.2 h.1
 have hany := open_any E r.n PB hPB abc (by decide) (by decide) (kP a.n gP) b hb blt b0'
 have hq := eqvN ha hb
 by_cases hab : a.n = b.n
 ·have hsame := open_same E r.n PB hPB abc (by decide) (by decide) b hb blt b0'
  rw [← hab] at hsame
  rw [decide_eq_true hab] at hq
  clear hany
  generalize pw (kP a.n gP) = pA at *
  generalize fileS (kP a.n gP) r.n (encP PB) abc = file at *
  obtain ⟨a0, a1, a2, a3⟩ := a
  obtain ⟨e0, e1, e2, e3⟩ := b
  obtain ⟨r0, r1, r2, r3⟩ := r
  refine Does.of Tryz.func3 rfl Tryz.ntmps3 rfl rfl fun F => ?_
  refine Xb ?_
  refine L_o rfl rfl rfl (O_box rfl fun b3 => ?_)
  refine L_o rfl rfl rfl (O_box rfl fun b4 => ?_)
  refine L_o rfl rfl rfl (O_box rfl fun b5 => ?_)
  refine Xn ?_
  refine XZ ?_
  refine L_o rfl rfl rfl (O_litP (τ := tNm) (m := 1) (sz := 4) [⟨a0, a1, a2, a3⟩] rfl rfl rfl rfl rfl rfl (by decide) (fun S1 => ?_))
  refine Xdn ?_
  rintro _ _ ⟨rfl, rfl⟩
  refine Xav ?_
  refine Xbv ?_
  refine L_o rfl rfl rfl (O_litP (τ := tNm) (m := 1) (sz := 4) [⟨e0, e1, e2, e3⟩] rfl rfl rfl rfl rfl rfl (by decide) (fun S2 => ?_))
  refine Xd5 ?_
  rintro _ _ ⟨rfl, rfl⟩
  refine Xav ?_
  refine Xp ?_
  refine Xbv ?_
  refine L_o rfl rfl rfl (O_litP (τ := tNm) (m := 1) (sz := 4) [⟨r0, r1, r2, r3⟩] rfl rfl rfl rfl rfl rfl (by decide) (fun S3 => ?_))
  refine Xe2 ?_
  rintro _ _ ⟨rfl, rfl⟩
  refine Xav ?_
  refine XbU ?_
  refine J.ent (Ent.re [3,4,5,6] rfl) ?_
  refine Xfo ?_
  refine XcU ?_
  refine S_o rfl rfl rfl rfl (O_callP (hbase) rfl ⟨_, fun _ => ⟨Ent.reN [0,2] rfl, Ent.refl _⟩, ?_⟩)
  refine Xa ?_
  refine S_o rfl rfl rfl rfl (O_callP (hseal) rfl ⟨_, fun _ => ⟨Ent.reN [0,2] rfl, Ent.refl _⟩, ?_⟩)
  refine Xa ?_
  refine XaB ?_
  refine Sq (Ent.re [0,2] rfl) rfl (Q_ext20 rfl) ?_
  refine Sq (Ent.re [0,2] rfl) rfl (Q_ext21 rfl) ?_
  refine XcX ?_
  refine XcX ?_
  refine Xu ?_
  refine XM ?_
  refine Xd ?_
  refine L_o rfl rfl rfl (O_callP (hsame) rfl ?_)
  refine XK ?_
  refine Xs ?_
  refine Xw ?_
  refine XbP ?_
  refine Xbv ?_
  refine XI ?_
  refine Lq (Q_geql eqgN hq rfl rfl) ?_
  refine Xf ?_
  refine XbP ?_
  refine Xf ?_
  refine Lq ((Q_sneq rfl rfl).as (v' := .bool false) rfl) ?_
  refine Xp ?_
  refine Xah ?_
  refine Xan ?_
  refine Xg ?_
  refine Xai ?_
  refine Xf ?_
  refine XN ?_
  refine Xai ?_
  refine XaD ?_
  refine XbJ ?_
  refine Xa7 ?_
  refine Xah ?_
  refine Xd ?_
  exact Xe3
 ·rw [decide_eq_false hab] at hq
  generalize pw (kP a.n gP) = pA at *
  generalize fileS (kP a.n gP) r.n (encP PB) abc = file at *
  obtain ⟨a0, a1, a2, a3⟩ := a
  obtain ⟨e0, e1, e2, e3⟩ := b
  obtain ⟨r0, r1, r2, r3⟩ := r
  refine Does.of Tryz.func3 rfl Tryz.ntmps3 rfl rfl fun F => ?_
  refine Xb ?_
  refine L_o rfl rfl rfl (O_box rfl fun b3 => ?_)
  refine L_o rfl rfl rfl (O_box rfl fun b4 => ?_)
  refine L_o rfl rfl rfl (O_box rfl fun b5 => ?_)
  refine Xn ?_
  refine XZ ?_
  refine L_o rfl rfl rfl (O_litP (τ := tNm) (m := 1) (sz := 4) [⟨a0, a1, a2, a3⟩] rfl rfl rfl rfl rfl rfl (by decide) (fun S1 => ?_))
  refine Xdn ?_
  rintro _ _ ⟨rfl, rfl⟩
  refine Xav ?_
  refine Xbv ?_
  refine L_o rfl rfl rfl (O_litP (τ := tNm) (m := 1) (sz := 4) [⟨e0, e1, e2, e3⟩] rfl rfl rfl rfl rfl rfl (by decide) (fun S2 => ?_))
  refine Xd5 ?_
  rintro _ _ ⟨rfl, rfl⟩
  refine Xav ?_
  refine Xp ?_
  refine Xbv ?_
  refine L_o rfl rfl rfl (O_litP (τ := tNm) (m := 1) (sz := 4) [⟨r0, r1, r2, r3⟩] rfl rfl rfl rfl rfl rfl (by decide) (fun S3 => ?_))
  refine Xe2 ?_
  rintro _ _ ⟨rfl, rfl⟩
  refine Xav ?_
  refine XbU ?_
  refine J.ent (Ent.re [3,4,5,6] rfl) ?_
  refine Xfo ?_
  refine XcU ?_
  refine S_o rfl rfl rfl rfl (O_callP (hbase) rfl ⟨_, fun _ => ⟨Ent.reN [0,2] rfl, Ent.refl _⟩, ?_⟩)
  refine Xa ?_
  refine S_o rfl rfl rfl rfl (O_callP (hseal) rfl ⟨_, fun _ => ⟨Ent.reN [0,2] rfl, Ent.refl _⟩, ?_⟩)
  refine Xa ?_
  refine XaB ?_
  refine Sq (Ent.re [0,2] rfl) rfl (Q_ext20 rfl) ?_
  refine Sq (Ent.re [0,2] rfl) rfl (Q_ext21 rfl) ?_
  refine XcX ?_
  refine XcX ?_
  refine Xu ?_
  refine XM ?_
  refine Xd ?_
  refine L_o rfl rfl rfl (O_call [] [0,1,2,3] hany rfl rfl ?_)
  rintro _ _ ⟨x, hx, hv, rfl⟩
  refine Xc ?_
  rcases hv with rfl | rfl
  ·refine XK ?_
   refine Xs ?_
   refine Xw ?_
   refine XbP ?_
   refine Xbv ?_
   refine XI ?_
   refine Lq (Q_geql eqgN hq rfl rfl) ?_
   refine XbJ ?_
   refine Xa7 ?_
   refine Xp ?_
   refine Xan ?_
   refine Xg ?_
   refine Xai ?_
   refine Xf ?_
   refine XN ?_
   refine Lq ((Q_eql rfl rfl).as (v' := .bool true) (congrArg Value.bool (decide_eq_true ((by rw [hx]; rfl))))) ?_
   refine XaD ?_
   refine XbJ ?_
   refine Xa7 ?_
   refine Xah ?_
   refine Xd ?_
   exact Xe3
  ·refine XK ?_
   refine Xs ?_
   refine Xw ?_
   refine XbP ?_
   refine Xbv ?_
   refine XI ?_
   refine Lq (Q_geql eqgN hq rfl rfl) ?_
   refine XbJ ?_
   refine Xa7 ?_
   refine Xp ?_
   refine Xan ?_
   refine Xg ?_
   refine Xbo ?_
   refine Xcv ?_
   refine Xp ?_
   refine Xf ?_
   refine Xai ?_
   refine Xf ?_
   refine Lq ((Q_seql rfl rfl).as (v' := .bool true) rfl) ?_
   refine XaD ?_
   refine Xp ?_
   refine Xd ?_
   exact Xe3
end
end Go.Proofs
/- The law TopWrong, from its arguments' readings. -/
set_option autoImplicit false
namespace Go.Proofs
open Go.SL Go.RowKit
theorem num_in {vs : List Value} (h : LeafsOk (List.replicate 4 (.int .u64)) vs) : ∃ x : W4, vs = x.l ∧ x.ok := by
 obtain ⟨a, r, rfl, ha, h⟩ := leafs_int h
 obtain ⟨b, r, rfl, hb, h⟩ := leafs_int h
 obtain ⟨c, r, rfl, hc, h⟩ := leafs_int h
 obtain ⟨d, r, rfl, hd, h⟩ := leafs_int h
 obtain rfl := leafs_nil h
 obtain ⟨a, rfl, ka⟩ := wf_u64 ha
 obtain ⟨b, rfl, kb⟩ := wf_u64 hb
 obtain ⟨c, rfl, kc⟩ := wf_u64 hc
 obtain ⟨d, rfl, kd⟩ := wf_u64 hd
 exact ⟨⟨a, b, c, d⟩, rfl, ⟨ka, kb, kc, kd⟩⟩
theorem wrong_calls (W : World) (v0 v1 v2 : Value) (h0 : InStruct (List.replicate 4 (.int .u64)) v0) (h1 : InStruct (List.replicate 4 (.int .u64)) v1) (h2 : InStruct (List.replicate 4 (.int .u64)) v2) (hL : LaidE W) : Calls Tryz.prog 3 #[v0, v1, v2] W fun e w' => e = .returned (.bool true) ∧ Below W.heap.size W w' := by
 obtain ⟨vs0, rfl, k0⟩ := h0
 obtain ⟨vs1, rfl, k1⟩ := h1
 obtain ⟨vs2, rfl, k2⟩ := h2
 obtain ⟨a, rfl, ha⟩ := num_in k0
 obtain ⟨b, rfl, hb⟩ := num_in k1
 obtain ⟨r, rfl, hr⟩ := num_in k2
 exact law_calls (topWrong_ok W a b r ha hb hr) (fun v L h => h.1) (by simp)
end Go.Proofs
/- The law of a committee, plainly: what is gathered. -/
set_option autoImplicit false
namespace Go.Proofs
open Go.SL
theorem choose_list {α β : Type} (P : α → β → Prop) : ∀ l : List α, (∀ a ∈ l, ∃ b, P a b) → ∃ m : List β, m.length = l.length ∧ ∀ i (h : i < l.length) (h' : i < m.length), P l[i] m[i]
 | [], _ => ⟨[], rfl, fun i h => by cases h⟩
 | a :: l, h => by
  obtain ⟨b, hb⟩ := h a (by simp)
  obtain ⟨m, h1, h2⟩ := choose_list P l fun x hx => h x (by simp [hx])
  refine ⟨b :: m, by simp [h1], fun i hi hi' => ?_⟩
  cases i with
  | zero => exact hb
  | succ i => exact h2 i (by simpa using hi) (by simpa using hi')
/-- The shares that are kept when node i's go in, dealer by dealer. -/
noncomputable def gst (cs : List (List W4)) (pl : List Nat) (i k : Nat) : List ShL := (List.range cs.length).map fun j => shrF (cs.getD j []) (pl.take (if j < k then i + 1 else i))
section
variable (cs : List (List W4)) (pl : List Nat)
theorem gst_len (i k : Nat) : (gst cs pl i k).length = cs.length := by unfold gst; simp
theorem gst_next (i : Nat) : gst cs pl i cs.length = gst cs pl (i + 1) 0 := by
 unfold gst
 refine List.map_congr_left fun j hj => ?_
 rw [if_pos (List.mem_range.1 hj), if_neg (Nat.not_lt_zero j)]
theorem gst_0 : gst cs pl 0 0 = List.replicate cs.length [] := by
 unfold gst
 refine List.ext_getElem (by simp) fun j h1 h2 => ?_
 simp [shrF]
theorem gst_get (i k j : Nat) (h : j < (gst cs pl i k).length) : (gst cs pl i k)[j] = shrF (cs.getD j []) (pl.take (if j < k then i + 1 else i)) := by simp [gst]
theorem shrF_take (c : List W4) (i : Nat) (h : i < pl.length) : shrF c (pl.take (i + 1)) = shrF c (pl.take i) ++ [(pl[i], valW c pl[i])] := by
 unfold shrF
 rw [List.take_succ_eq_append_getElem h, List.map_append]; rfl
theorem gst_set (i k : Nat) (hi : i < pl.length) (_ : k < cs.length) : (gst cs pl i k).set k (shrF (cs.getD k []) (pl.take i) ++ [(pl[i], valW (cs.getD k []) pl[i])]) = gst cs pl i (k + 1) := by
 rw [← shrF_take pl (cs.getD k []) i hi]
 refine List.ext_getElem (by rw [List.length_set, gst_len, gst_len]) fun j h1 h2 => ?_
 rw [List.getElem_set]
 by_cases e : k = j
 ·subst e
  rw [if_pos rfl, gst_get, if_pos (Nat.lt_succ_self k)]
 ·rw [if_neg e, gst_get, gst_get]
  by_cases h3 : j < k
  ·rw [if_pos h3, if_pos (by omega)]
  ·rw [if_neg h3, if_neg (by omega)]
theorem shrF_len (c : List W4) (q : List Nat) : (shrF c q).length = q.length := by unfold shrF; simp
theorem shrF_ok (c : List W4) (q : List Nat) : ∀ p ∈ shrF c q, p.2.ok := fun p hp => by
 unfold shrF at hp
 obtain ⟨a, _, rfl⟩ := List.mem_map.1 hp
 exact ws_ok _
/-- Places that nodes have. -/
structure Nodes (pl : List Nat) (t : Nat) : Prop where
 len : pl.length = t + 1
 lo : ∀ a ∈ pl, 1 ≤ a
 hi : ∀ a ∈ pl, a ≤ 7
 nd : pl.Nodup
variable {cs pl}
theorem Nodes.plcs {t : Nat} (h : Nodes pl t) (ht : t ≤ 2) : Plcs pl := ⟨(fun e => by have := h.len; rw [e] at this; cases this), h.nd, h.lo, (fun a ha => by have := h.hi a ha; omega), (by rw [h.len]; omega)⟩
theorem full_of {t : Nat} (ht : t ≤ 2) (h : Nodes pl t) (k : List (SV × ShL)) (hk : k.map (·.2) = gst cs pl (t + 1) 0) : Full k t := by
 have key : ∀ p ∈ k, ∃ c, p.2 = shrF c pl := fun p hp => by
  have h1 : p.2 ∈ gst cs pl (t + 1) 0 := by rw [← hk]; exact List.mem_map_of_mem hp
  obtain ⟨j, _, hj⟩ := List.mem_map.1 h1
  refine ⟨cs.getD j [], ?_⟩
  rw [← hj, if_neg (Nat.not_lt_zero j), ← h.len, List.take_length]
 refine ⟨fun p hp => ?_, fun p hp => ?_, fun p hp => ?_⟩
 ·obtain ⟨c, e⟩ := key p hp
  rw [e, shrF_len, h.len]; omega
 ·obtain ⟨c, e⟩ := key p hp
  rw [e, shrF_fst]; exact h.plcs ht
 ·obtain ⟨c, e⟩ := key p hp
  rw [e]; exact shrF_ok c pl
theorem keyF_gst (k : List (SV × ShL)) : keyF k = (k.map (·.2)).foldl (fun s l => s + joinF l) 0 := by
 unfold keyF; rw [List.foldl_map]
theorem keyN_chZ (i : Nat) : keyN cs ((List.range i).map (· + 1)) = (List.range i).foldl (fun s j => s + ((cs.getD j []).getD 0 z4).n) 0 := by
 unfold keyN
 rw [List.foldl_map]; rfl
theorem key_all {t : Nat} (ht : t ≤ 2) (h : Nodes pl t) (hcs : ∀ c ∈ cs, c.length = t + 1) (k : List (SV × ShL)) (hk : k.map (·.2) = gst cs pl (t + 1) 0) : keyF k = Nt.toF Nt.pQ (keyN cs (chZ cs.length)) := by
 rw [keyF_gst, hk]
 unfold chZ gst
 rw [keyN_chZ, List.foldl_map]
 have key : ∀ i, i ≤ cs.length → (List.range i).foldl (fun s j => s + joinF (shrF (cs.getD j []) (pl.take (if j < 0 then t + 1 + 1 else t + 1)))) 0 = Nt.toF Nt.pQ ((List.range i).foldl (fun s j => s + ((cs.getD j []).getD 0 z4).n) 0) := by
  intro i
  induction i with
  | zero => intro _; rfl
  | succ i ih =>
   intro hi
   rw [List.range_succ, List.foldl_append, List.foldl_append, ih (by omega)]
   show _ + joinF _ = Nt.toF Nt.pQ (_ + _)
   have hm : cs.getD i [] ∈ cs := by rw [getD_eq _ _ _ (by omega : i < cs.length)]; exact List.getElem_mem _
   rw [Nt.toF_add, if_neg (Nat.not_lt_zero i), ← h.len, List.take_length, joinF_shr (cs.getD i []) pl h.nd (by rw [hcs _ hm, h.len]) (by rw [h.len]; omega) (by rw [h.len]; omega) (fun a ha => by have := h.hi a ha; omega)]
   rfl
 exact key cs.length (Nat.le_refl _)
theorem keys_same {t : Nat} (ht : t ≤ 2) (h : Nodes pl t) (hcs : ∀ c ∈ cs, c.length = t + 1) (k : List (SV × ShL)) (hk : k.map (·.2) = gst cs pl (t + 1) 0) : kP (ws (keyF k)).n gP = kP (keyN cs (chZ cs.length)) gP := by
 rw [ws_n, key_all ht h hcs k hk]; exact mul_fq _
end
end Go.Proofs
/- The law of a committee: its walk. -/
set_option autoImplicit false
namespace Go.Proofs
open Go.SL
def tZi : Ty Int := ⟨3, 1, fun n => [.int .i64 n], fun _ => rfl, by decide, fun a v hv => by simp at hv; subst hv; rfl⟩
instance : TyI Tryz.prog tZi.e 1 (.int .i64 0) 8 := inferInstanceAs (TyI Tryz.prog 3 1 (.int .i64 0) 8)
instance : TyU Tryz.prog 39 (.slice tZi.e) := inferInstanceAs (TyU Tryz.prog 39 (.slice 3))
def hd0 (d : Dl) : SV := (d.c.map (·.1)).getD 0 SV.nil
theorem chZ_succ (n : Nat) : chZ (n + 1) = chZ n ++ [n + 1] := by unfold chZ; rw [List.range_succ, List.map_append]; rfl
theorem _root_.Go.SL.Sat.dl1 {E w : World} {L : List HProp} {d : Dl} (h : Sat E w L) (i : Nat) (hi : L[i]? = some (dlA d)) : Sat E w [slc tPs true d.C (d.c.map (·.1)), stars (d.c.map rowP), slc tNs true d.V (d.v.map (·.1)), stars (d.v.map rowN)] := by
 have h2 := (Ent.dl_out d) E w (h.one i hi)
 exact h2.pick [0,1,2,3] rfl
theorem dealB_t {n : Int} {t l : Nat} (h : dealB n t l = true) : quoB n t = true ∧ l = t + 1 := by
 unfold dealB at h
 simp only [Bool.and_eq_true, decide_eq_true_eq] at h
 exact h
/-- What is known of the deals that were made. -/
def Made (n : Int) (t : Nat) (cs : List (List W4)) (ds : List Dl) : Prop := ∀ j (h : j < ds.length) (h' : j < cs.length), DlOf ds[j] n.toNat [cs[j]] ∧ polyB cs[j] = true ∧ dealB n t (cs[j]).length = true
theorem Made.app {n : Int} {t : Nat} {cs : List (List W4)} {ds : List Dl} (h : Made n t cs ds) (d : Dl) (hi : ds.length < cs.length) (h1 : DlOf d n.toNat [cs[ds.length]]) (h2 : polyB cs[ds.length] = true) (h3 : dealB n t (cs[ds.length]).length = true) : Made n t cs (ds ++ [d]) := fun j hj hj' => by
 by_cases e : j < ds.length
 ·rw [List.getElem_append_left e]; exact h j e hj'
 ·have e2 : j = ds.length := by rw [List.length_append, List.length_singleton] at hj; omega
  subst e2
  rw [List.getElem_append_right (Nat.le_refl _)]
  simp only [Nat.sub_self, List.getElem_cons_zero]
  exact ⟨h1, h2, h3⟩
/-- The gathering behind i nodes, and k dealers of the next one. -/
structure GSt (g : Ga) (t : Nat) (cs : List (List W4)) (pl : List Nat) (i k : Nat) : Prop where
 t : g.t = t
 c : g.c.map (·.2) = cs.map cmtL
 k : g.k.map (·.2) = gst cs pl i k
 nil : ∀ p ∈ g.k, p.2 = [] → p.1 = SV.nil
theorem GSt.klen {g : Ga} {t : Nat} {cs : List (List W4)} {pl : List Nat} {i k : Nat} (h : GSt g t cs pl i k) : g.k.length = cs.length := by have := congrArg List.length h.k; rwa [List.length_map, gst_len] at this
theorem GSt.clen {g : Ga} {t : Nat} {cs : List (List W4)} {pl : List Nat} {i k : Nat} (h : GSt g t cs pl i k) : g.c.length = cs.length := by have := congrArg List.length h.c; rwa [List.length_map, List.length_map] at this
theorem GSt.kget {g : Ga} {t : Nat} {cs : List (List W4)} {pl : List Nat} {i k : Nat} (h : GSt g t cs pl i k) (j : Nat) (hj : j < g.k.length) : (g.k[j]).2 = shrF (cs.getD j []) (pl.take (if j < k then i + 1 else i)) := by
 have e : (g.k.map (·.2))[j]'(by rw [List.length_map]; exact hj) = shrF (cs.getD j []) (pl.take (if j < k then i + 1 else i)) := by
  simp only [h.k]; exact gst_get cs pl i k j _
 rwa [List.getElem_map] at e
theorem GSt.cget {g : Ga} {t : Nat} {cs : List (List W4)} {pl : List Nat} {i k : Nat} (h : GSt g t cs pl i k) (j : Nat) (hj : j < g.c.length) (hj' : j < cs.length) : (g.c[j]).2 = cmtL cs[j] := by
 have e : (g.c.map (·.2))[j]'(by rw [List.length_map]; exact hj) = cmtL cs[j] := by simp only [h.c, List.getElem_map]
 rwa [List.getElem_map] at e
theorem GSt.put {g : Ga} {t : Nat} {cs : List (List W4)} {pl : List Nat} {i k : Nat} (h : GSt g t cs pl i k) (hi : i < pl.length) (hk : k < cs.length) (S : SV) : GSt (putG g k S (pl[i], valW (cs.getD k []) pl[i])) t cs pl i (k + 1) := by
 have hkk : k < g.k.length := by rw [h.klen]; exact hk
 have hg := h.kget k hkk
 rw [if_neg (Nat.lt_irrefl k)] at hg
 refine ⟨h.t, h.c, ?_, ?_⟩
 ·show (g.k.set k _).map (·.2) = _
  rw [List.map_set, h.k]
  show (gst cs pl i k).set k ((g.k.getD k (SV.nil, [])).2 ++ [(pl[i], valW (cs.getD k []) pl[i])]) = _
  rw [getD_eq _ _ _ hkk, hg]
  exact gst_set cs pl i k hi hk
 ·intro p hp hp2
  rcases List.mem_or_eq_of_mem_set hp with h1 | h1
  ·exact h.nil p h1 hp2
  ·subst h1
   exact absurd (List.append_eq_nil_iff.1 hp2).2 (by intro h; cases h)
theorem GSt.next {g : Ga} {t : Nat} {cs : List (List W4)} {pl : List Nat} {i : Nat} (h : GSt g t cs pl i cs.length) : GSt g t cs pl (i + 1) 0 := ⟨h.t, h.c, by rw [h.k, gst_next], h.nil⟩
theorem shrF_no (c : List W4) (pl : List Nat) (i : Nat) (h : i < pl.length) (hd : ∀ j (_ : j < i) (h2 : j < pl.length), pl[j] ≠ pl[i]) : ∀ q ∈ shrF c (pl.take i), q.1 ≠ pl[i] := fun q hq => by
 unfold shrF at hq
 obtain ⟨a, ha, rfl⟩ := List.mem_map.1 hq
 obtain ⟨j, hj, rfl⟩ := List.getElem_of_mem ha
 rw [List.length_take] at hj
 rw [List.getElem_take]
 exact hd j (by omega) (by omega)
theorem chZ_pol (cs : List (List W4)) (m : Nat) : (chZ cs.length).map (fun c => valW (pol cs c) m) = cs.map fun c => valW c m := by
 refine List.ext_getElem (by simp [chZ]) fun j h1 h2 => ?_
 simp only [List.length_map] at h2
 simp only [List.getElem_map, chZ, List.getElem_range]
 unfold pol
 rw [Nat.add_sub_cancel, getD_eq _ _ _ h2]
end Go.Proofs
