/- Part 21 of the texts below the row: KvA, Aw38, Few38, Alo50, Ch5, FolP. -/
import Derived.Test.YtgifbeecmidciaaGreatM20
/- A store as one chunk, and what is done to it. -/
set_option autoImplicit false
namespace Go.Proofs
open Go.SL Go.Proofs.Bt
def kvL (p : Nat) (K : Kst) (q : Nat × Nat × Nat) : List HProp := [kvC p q.1 q.2.1 q.2.2 (K.saved : Int), treeA q.1 K.t, segA q.2.1 K.g, snapA q.2.2 K.a K.b]
def kvA (p : Nat) (K : Kst) : HProp := hex fun q : Nat × Nat × Nat => stars (kvL p K q)
theorem Ent.kv {p pt pl ps : Nat} {K : Kst} {L : List HProp} : Ent (kvC p pt pl ps (K.saved : Int) :: treeA pt K.t :: segA pl K.g :: snapA ps K.a K.b :: L) (kvA p K :: L) := fun E w h => by
 have h1 := Sat.rot (A := kvL p K (pt, pl, ps)) (B := L) h
 have h4 : Sat E w (stars (kvL p K (pt, pl, ps)) :: L) := Sat.rot (A := L) h1.fold
 exact h4.mkex (f := fun q : Nat × Nat × Nat => stars (kvL p K q)) (pt, pl, ps)
theorem Does.kv {P : Program} {E : World} {f : Nat} {args : List Value} {p : Nat} {K : Kst} {L : List HProp} {Q : Value → List HProp → Prop} (h : ∀ pt pl ps : Nat, Does P E f args (kvC p pt pl ps (K.saved : Int) :: treeA pt K.t :: segA pl K.g :: snapA ps K.a K.b :: L) Q) : Does P E f args (kvA p K :: L) Q := fun F w hs => by
 obtain ⟨q, hq⟩ := Sat.ex (f := fun q : Nat × Nat × Nat => stars (kvL p K q)) (R := L ++ [F]) hs
 exact h q.1 q.2.1 q.2.2 F w (Sat.rot (A := L ++ [F]) (hq.rot (A := [_]) (B := L ++ [F])).unfold)
theorem putOk_t {k v : Ky} (h : putOk k v = true) : keyB k = true ∧ v.length ≤ 1024 := by simpa [putOk] using h
theorem logK_eq {K : Kst} {c : Chg} : logK K c = ⟨(appL K.g (chB c)).1, K.a, K.b, K.saved, if (appL K.g (chB c)).2.2 = 0 then chL K.t c else K.t⟩ := by
 unfold logK
 split
 ·rfl
 ·rename_i h; rw [app_err h]
theorem Inv.put {K : Kst} {base : List Kv} {n c : Nat} (k v : Ky) (h : Inv K base n c) : Inv (putK K k v) base n (c + 1) := by
 unfold putK
 split
 ·rename_i hp
  obtain ⟨h1, h2⟩ := putOk_t hp
  exact h.log (readC_put k v (by have := keyB_len h1; omega) (by omega))
 ·exact h.mono (by omega)
theorem Inv.del {K : Kst} {base : List Kv} {n c : Nat} (k : Ky) (h : Inv K base n c) : Inv (delK K k) base n (c + 1) := by
 unfold delK
 split
 ·rename_i hp
  split
  ·exact h.log (readC_del k (by have := keyB_len hp; omega))
  ·exact h.mono (by omega)
 ·exact h.mono (by omega)
attribute [local irreducible] J JL QOp JOp seqQ blockQ loopQ retQ slc cel hex star pur stars Does RV Ent pAt scopeQ
attribute [local irreducible] nodeA nodeX treeA segA snapA
section
variable (E : World) (p : Nat) {K : Kst} {base : List Kv} {n c : Nat}
theorem anew_ok (z : Int) : Does Tryz.prog E 15 [.int .i64 z] [] fun v L => ∃ p : Nat, v = .pointer (some ⟨p, 0, none⟩) ∧ L = [kvA p (newK z)] := by
 refine Does.post (knew_ok E z) (fun F => Ent.refl _) ?_
 rintro v L ⟨p, pt, pl, ps, hv, rfl⟩
 exact ⟨_, ⟨p, hv, rfl⟩, fun F => Ent.kv (K := newK z)⟩
theorem aput_ok (hI : Inv K base n c) (hc : c ≤ 1000000) (k v : Ky) : Does Tryz.prog E 16 [.pointer (some ⟨p, 0, none⟩), str k, str v] [kvA p K] fun r L => r = .int .i64 (putE K k v) ∧ L = [kvA p (putK K k v)] := by
 have hlen := hI.len
 cases hp : putOk k v with
 | false =>
  have e1 : putE K k v = 1 := by unfold putE; rw [hp]; rfl
  have e2 : putK K k v = K := by unfold putK; rw [hp]; rfl
  rw [e1, e2]
  refine Does.post (Does.frame (R := [kvA p K]) (kputB_ok E p k v hp)) (fun F => Ent.refl _) ?_
  rintro r _ ⟨_, ⟨hv, rfl⟩, rfl⟩
  exact ⟨_, ⟨hv, rfl⟩, fun F => Ent.refl _⟩
 | true =>
  obtain ⟨h1, h2⟩ := putOk_t hp
  have e1 : putE K k v = (appL K.g (chB (.put k v))).2.2 := by unfold putE; rw [if_pos hp]
  have e2 : putK K k v = logK K (.put k v) := by unfold putK; rw [if_pos hp]
  rw [e1, e2]
  refine Does.kv fun pt pl ps => ?_
  refine Does.post (Does.frame (R := [snapA ps K.a K.b]) (kput_ok E p pt pl ps c (K.saved : Int) K.g K.t k v hI.g hc (by omega) h1 h2)) (fun F => Ent.refl _) ?_
  rintro r _ ⟨_, ⟨hv, rfl⟩, rfl⟩
  refine ⟨_, ⟨hv, rfl⟩, fun F => ?_⟩
  rw [logK_eq]
  exact Ent.kv (K := ⟨(appL K.g (chB (.put k v))).1, K.a, K.b, K.saved, if (appL K.g (chB (.put k v))).2.2 = 0 then chL K.t (.put k v) else K.t⟩)
theorem aget_ok (k : Ky) : Does Tryz.prog E 26 [.pointer (some ⟨p, 0, none⟩), str k] [kvA p K] fun r L => r = .tuple #[str (Bt.getL K.t k), .int .i64 (if hasL K.t k = true then 0 else 9)] ∧ L = [kvA p K] := by
 refine Does.kv fun pt pl ps => ?_
 refine Does.post (Does.frame (R := [segA pl K.g, snapA ps K.a K.b]) (kget_ok E p pt pl ps (K.saved : Int) K.t k)) (fun F => Ent.refl _) ?_
 rintro r _ ⟨_, ⟨hv, rfl⟩, rfl⟩
 exact ⟨_, ⟨hv, rfl⟩, fun F => Ent.kv⟩
theorem async_ok (hI : Inv K base n c) (hc : c ≤ 1000000) : Does Tryz.prog E 19 [.pointer (some ⟨p, 0, none⟩)] [kvA p K] fun r L => r = .tuple #[] ∧ L = [kvA p (syncK K)] := by
 refine Does.kv fun pt pl ps => ?_
 refine Does.post (Does.frame (R := [treeA pt K.t, snapA ps K.a K.b]) (ksync_ok E p pt pl ps c (K.saved : Int) K.g hI.g hc)) (fun F => Ent.pick [0,2,1,3,4] [kvC p pt pl ps (K.saved : Int), treeA pt K.t, segA pl K.g, snapA ps K.a K.b, F] rfl) ?_
 rintro r _ ⟨_, ⟨hv, rfl⟩, rfl⟩
 exact ⟨_, ⟨hv, rfl⟩, fun F => (Ent.pick [0,2,1,3,4] [kvC p pt pl ps (K.saved : Int), segA pl (syncL K.g), treeA pt K.t, snapA ps K.a K.b, F] rfl).trans (Ent.kv (K := syncK K))⟩
theorem acrash_ok (hI : Inv K base n c) (hc : c ≤ 800000) (keep : Nat) (hk : keep < 2 ^ 64) : Does Tryz.prog E 20 [.pointer (some ⟨p, 0, none⟩), .int .u64 (keep : Int)] [kvA p K] fun r L => r = .tuple #[] ∧ L = [kvA p (crashK K base keep)] := by
 have h2 := hI.crash keep
 refine Does.kv fun pt pl ps => ?_
 refine Does.post (kcrash_ok E p pt pl ps c (K.saved : Int) K.g K.t K.a K.b K.saved keep base hI.g hc (hI.told (by omega)) hk h2.fi h2.sn) (fun F => Ent.refl _) ?_
 rintro r _ ⟨q, hv, rfl⟩
 exact ⟨_, ⟨hv, rfl⟩, fun F => Ent.kv (K := crashK K base keep)⟩
end
end Go.Proofs
/- Chapter 38's example. -/
set_option autoImplicit false
namespace Go.Proofs
open Go.SL Go.Proofs.Bt
attribute [local irreducible] J JL QOp JOp seqQ blockQ loopQ retQ slc cel hex star pur stars Does RV Ent pAt scopeQ
attribute [local irreducible] nodeA nodeX treeA segA snapA kvA
end Go.Proofs
/- Deeds on a store: how they lie in cells; are they few? A store that is none; pairs the same. -/
set_option autoImplicit false
namespace Go.Proofs
open Go.SL Go.Proofs.Bt
structure Dv where
 kind : Int
 n : Int
 key : Ky
 val : Ky
 keep : Nat
abbrev dvV (d : Dv) : List Value := [.int .i64 d.kind, .int .i64 d.n, str d.key, str d.val, .int .u64 (d.keep : Int)]
def tDv : Ty Dv := ⟨47, 5, dvV, fun _ => rfl, by decide, fun a v hv => by simp [dvV] at hv; rcases hv with rfl | rfl | rfl | rfl | rfl <;> rfl⟩
instance : TyI Tryz.prog tDv.e 5 (.agg #[.int .i64 0, .int .i64 0, .string ⟨#[]⟩, .string ⟨#[]⟩, .int .u64 0]) 56 := inferInstanceAs (TyI Tryz.prog 47 5 (.agg #[.int .i64 0, .int .i64 0, .string ⟨#[]⟩, .string ⟨#[]⟩, .int .u64 0]) 56)
instance : TyU Tryz.prog 40 (.slice tDv.e) := inferInstanceAs (TyU Tryz.prog 40 (.slice 47))
attribute [local irreducible] J JL QOp JOp seqQ blockQ loopQ retQ slc cel hex star pur stars Does RV Ent pAt scopeQ
attribute [local irreducible] nodeA nodeX treeA segA snapA kvA
theorem Rdy.slc {E : World} {S : SV} {l : List Kv} : Rdy E (slc tKv true S l) S l := fun _ _ hs => hs.rd 0 rfl
end Go.Proofs
/- A chain of one node decides what it wants; a follower has it; a store keeps it. -/
set_option autoImplicit false
namespace Go.Proofs
open Go.SL Go.Proofs.Bt
abbrev vA : Ky := [118]
def wayA : Nat → List (Nat × Wd)
 | 0 => [(0, prop0 vA)]
 | 1 => [(0, prop0 vA), (0, vote0 2 vA)]
 | 2 => [(0, prop0 vA), (0, vote0 2 vA), (0, vote0 3 vA)]
 | _ => [(0, prop0 vA), (0, vote0 2 vA), (0, vote0 3 vA), (1, prop0 none0)]
def agAt : Nat → Ag
 | 0 => ag1 0 vA
 | 1 => agA 0 vA
 | 2 => agB 0 vA
 | _ => ag1 1 none0
def vtAt : Nat → List Wd
 | 2 => [vote0 2 vA]
 | _ => []
def lgAt (i : Nat) : List Ky := if i < 3 then [] else [vA]
def wtAt (i : Nat) : List Ky := if i < 3 then [vA] else []
structure Ax where
 i : Nat
 T : SV
 pa : Nat
 pv : Nat
 Sl : SV
 Sw : SV
def hd0 : Nat → Bool := fun _ => false
def tl0 : Nat → Hg := fun _ => ⟨none, [], false⟩
def tlF (m : Nat) : Nat → Hg := updG tl0 0 (addG (tl0 0) m vA 1)
theorem tlF_0 (m : Nat) : tlF m 0 = ⟨some (m, [(vA, 1)]), vA, true⟩ := rfl
theorem tlF_s (m i : Nat) : (tlF m (i + 1)).told = false := rfl
theorem tlF_log {m k : Nat} (hk : k ≤ 64) (h1 : ∀ h, h < k → (tlF m h).told = true) (h2 : k = 64 ∨ (tlF m k).told = false) : k = 1 := by
 rcases Nat.lt_or_ge 1 k with h | h
 ·have := h1 1 h; rw [tlF_s] at this; cases this
 ·rcases Nat.eq_zero_or_pos k with e | e
  ·subst e
   rcases h2 with h2 | h2
   ·omega
   ·rw [tlF_0] at h2; cases h2
  ·omega
theorem kal_t (keep : Nat) : (crashK (syncK (putK (newK 200) [118] [120])) [] keep).t = [⟨[118], [120]⟩] := by
 have := (inv_new 200).put [118] [120]
 have h := (this.again keep).1
 rw [h]; rfl
attribute [local irreducible] J JL QOp JOp seqQ blockQ loopQ retQ slc cel hex star pur stars Does RV Ent pAt scopeQ
attribute [local irreducible] nodeA nodeX treeA segA snapA kvA votA agL zer63 bz122 foL folM mapC bz78 fol0
theorem alone_ok (E : World) : Does Tryz.prog E 5 [] [] fun v L => v = .bool true ∧ L = [] := by
 have i0 := inv_new 200
 have i1 := i0.put [118] [120]
 have i2 := i1.sync
 have i3 := i2.crash 0
 have hmv : mayV vA = true := rfl
 have hk1 := fun p => aput_ok E p i0 (by decide) [118] [120]
 have hk2 := fun p => async_ok E p i1 (by decide)
 have hk3 := fun p => acrash_ok E p i2 (by decide) 0 (by decide)
 have hk4 := fun p => aget_ok E p (K := crashK (syncK (putK (newK 200) [118] [120])) [] 0) [118]
 rw [kal_t] at hk4
 generalize crashK (syncK (putK (newK 200) [118] [120])) [] 0 = K3 at *
 generalize hK2 : syncK (putK (newK 200) [118] [120]) = K2 at *
 generalize hK1 : putK (newK 200) [118] [120] = K1 at *
 refine Does.of Tryz.func5 rfl Tryz.ntmps5 rfl rfl fun F => ?_
 refine J.norm ?_
 refine Sr ?_
 refine Lq (Q_assign rfl) ?_
 refine Ln ?_
 refine Sr ?_
 refine L_o rfl rfl rfl (O_call [] [0] (cnew_ok E) rfl rfl ?_)
 rintro _ _ ⟨p, rfl, rfl⟩
 refine JL.norm ?_
 refine Lq (Q_assign rfl) ?_
 refine Ln ?_
 refine Sr ?_
 refine L_o rfl rfl rfl (O_call [] [0,1,2,3] (fnew_ok E 0) rfl rfl ?_)
 rintro _ _ ⟨pf, rfl, rfl⟩
 refine JL.norm ?_
 refine L_o rfl rfl rfl (O_call [] [0,1,2,3,4,5] (anew_ok E 200) rfl rfl ?_)
 rintro _ _ ⟨pk, rfl, rfl⟩
 refine JL.norm ?_
 refine Lq (Q_assign rfl) ?_
 refine Lq (Q_assign rfl) ?_
 refine Ln ?_
 refine J_seq ?_
 refine J_seq ?_
 generalize hK0 : newK 200 = K0 at *
 refine J_region ?_
 refine Lq (Q_move rfl) ?_
 refine Lq ((Q_peql rfl rfl).as (v' := .bool false) rfl) ?_
 refine Lq (Q_move rfl) ?_
 refine Lq (Q_move rfl) ?_
 refine Lq ((Q_peql rfl rfl).as (v' := .bool false) rfl) ?_
 refine Lq (Q_pickF rfl rfl) ?_
 refine Lq (Q_move rfl) ?_
 refine Lq (Q_move rfl) ?_
 refine Lq ((Q_peql rfl rfl).as (v' := .bool false) rfl) ?_
 refine Lq (Q_pickF rfl rfl) ?_
 refine Lq (Q_move rfl) ?_
 refine Lq (Q_move rfl) ?_
 refine L_o rfl rfl rfl (O_call [3,5] [0,1,2,4,6] (cwant_ok E p SV.nil [] false (.pointer none) SV.nil.v vA hmv (by decide)) rfl rfl ?_)
 rintro _ _ ⟨Sw0, rfl, rfl⟩
 refine JL.norm ?_
 refine Lq ((Q_neq rfl rfl).as (v' := .bool false) rfl) ?_
 refine Lq (Q_pickF rfl rfl) ?_
 refine Ln ?_
 refine J_condF rfl ?_
 refine J_skip ?_
 refine seqQ_normal ?_
 refine Sr ?_
 refine Lq (Q_move rfl) ?_
 refine L_o rfl rfl rfl (O_call [0,5,1] [2,3,4,6] (cstart_ok E p SV.nil Sw0 [] [vA] (.pointer none) (by decide) (by intro v hv; simp at hv; subst hv; exact hmv) (by decide)) rfl rfl ?_)
 rintro _ _ ⟨pa0, pv0, T0, rfl, rfl⟩
 refine JL.norm ?_
 refine Lq (Q_assign rfl) ?_
 refine Ln ?_
 refine J_seq ?_
 refine Sr ?_
 refine Lq (Q_assign rfl) ?_
 refine Ln ?_
 refine J_block ?_
 refine J.cutB (fun e ρ' L' => e = .normal ∧ ∃ (pa pv : Nat) (Sl Sw : SV), envSub [(1, .pointer (some ⟨p, 0, none⟩)), (2, .pointer (some ⟨pf, 0, none⟩)), (3, .pointer (some ⟨pk, 0, none⟩))] ρ' ∧ Ent L' [chC p true (.pointer (some ⟨pa, 0, none⟩)) Sl.v Sw.v, slc tS true Sl [vA], kvA pk K0, folC pf 0 hd0 tl0, folM tl0, F]) ?_ ?_
 ·refine J_loop (fun x : Ax => x.i ≤ 3) (fun x => [(1, .pointer (some ⟨p, 0, none⟩)), (2, .pointer (some ⟨pf, 0, none⟩)), (3, .pointer (some ⟨pk, 0, none⟩)), (4, x.T.v), (5, .int .i64 (x.i : Int))]) (fun x => [chC p true (.pointer (some ⟨x.pa, 0, none⟩)) x.Sl.v x.Sw.v, slc tS true x.Sl (lgAt x.i), slc tS true x.Sw (wtAt x.i), agC x.pa (agAt x.i) x.pv .nilFunc, votA x.pv (vtAt x.i), slc tTa true x.T (wayA x.i), kvA pk K0, folC pf 0 hd0 tl0, folM tl0, F]) (fun x => 3 - x.i) ⟨0, T0, pa0, pv0, SV.nil, Sw0⟩ (Nat.zero_le _) ⟨rfl, rfl, rfl, rfl, rfl, trivial⟩ (Ent.refl _) ?_
  rintro ⟨i, T, pa, pv, Sl, Sw⟩ hi
  dsimp only at hi ⊢
  match i, hi with
  | 0, _ =>
   show J _ _ _ _ _ _ [chC p true (.pointer (some ⟨pa, 0, none⟩)) Sl.v Sw.v, slc tS true Sl [], slc tS true Sw [vA], agC pa (ag1 0 vA) pv .nilFunc, votA pv [], slc tTa true T [(0, prop0 vA)], kvA pk K0, folC pf 0 hd0 tl0, folM tl0, F]
   refine J_seq ?_
   refine Sr ?_
   refine Lq (Q_move rfl) ?_
   refine Lq (Q_move rfl) ?_
   refine Lq (Q_lenAt 5 rfl rfl) ?_
   refine Lq ((Q_lss rfl rfl).as (v' := .bool true) rfl) ?_
   refine Lq (Q_move rfl) ?_
   refine Lq (Q_move rfl) ?_
   refine Lq ((Q_lss rfl rfl).as (v' := .bool true) rfl) ?_
   refine Lq (Q_pickT rfl rfl) ?_
   refine Ln ?_
   refine J_condT rfl ?_
   refine J_skip ?_
   refine seqQ_normal ?_
   refine J_seq ?_
   refine J_block ?_
   refine J_region ?_
   refine Lq (Q_move rfl) ?_
   refine Lq (Q_move rfl) ?_
   refine Lq (Q_move rfl) ?_
   refine Lq (Q_move rfl) ?_
   refine Lq (Q_ixAt 5 0 rfl rfl rfl rfl (by decide) rfl) ?_
   refine Lq (Q_ldEAAt 5 0 0 (vs := tlV (0, prop0 vA)) rfl rfl rfl rfl (by decide) (by decide) rfl) ?_
   refine L_o rfl rfl rfl (O_call [0,1,3,4] [2,5,6,7,8,9] (ctakeF_ok E p pa pv Sl Sw [] (prop0 vA) (ag1 0 vA) (agA 0 vA) [] [] [vote0 2 vA] (by decide) (by decide) (by decide) (tk1_ok E pa pv 0 vA hmv (by decide)) rfl) rfl rfl ?_)
   rintro _ _ ⟨T2, rfl, rfl⟩
   refine JL.norm ?_
   refine L_o rfl rfl rfl (O_app (τ := tTa) 6 rfl (fun w h => h.rd 4 rfl) rfl rfl rfl rfl (by decide) (by decide) (fun T3 => ?_))
   refine JL.norm ?_
   refine Lq (Q_assign rfl) ?_
   refine JL_nil ?_
   refine blockQ_normal ?_
   refine seqQ_normal ?_
   refine J_region ?_
   refine Lq (Q_move rfl) ?_
   refine Lq (Q_add rfl rfl (by first | exact IntWalk.i64_in _ (by omega) | exact IntWalk.u8_in _ (by omega) | exact IntWalk.u32_in _ (by omega) | exact IntWalk.u64_in _ (by omega) | rfl)) ?_
   refine Lq (Q_assign rfl) ?_
   refine JL_nil ?_
   exact loopQ_normal ⟨1, T3, pa, pv, Sl, Sw⟩ (show 1 ≤ 3 by decide) (by show 3 - 1 < 3 - 0; decide) ⟨rfl, rfl, rfl, rfl, rfl, trivial⟩ (Ent.pick [0,1,5,2,3,6,7,8,9,10] _ rfl)
  | 1, _ =>
   show J _ _ _ _ _ _ [chC p true (.pointer (some ⟨pa, 0, none⟩)) Sl.v Sw.v, slc tS true Sl [], slc tS true Sw [vA], agC pa (agA 0 vA) pv .nilFunc, votA pv [], slc tTa true T [(0, prop0 vA), (0, vote0 2 vA)], kvA pk K0, folC pf 0 hd0 tl0, folM tl0, F]
   refine J_seq ?_
   refine Sr ?_
   refine Lq (Q_move rfl) ?_
   refine Lq (Q_move rfl) ?_
   refine Lq (Q_lenAt 5 rfl rfl) ?_
   refine Lq ((Q_lss rfl rfl).as (v' := .bool true) rfl) ?_
   refine Lq (Q_move rfl) ?_
   refine Lq (Q_move rfl) ?_
   refine Lq ((Q_lss rfl rfl).as (v' := .bool true) rfl) ?_
   refine Lq (Q_pickT rfl rfl) ?_
   refine Ln ?_
   refine J_condT rfl ?_
   refine J_skip ?_
   refine seqQ_normal ?_
   refine J_seq ?_
   refine J_block ?_
   refine J_region ?_
   refine Lq (Q_move rfl) ?_
   refine Lq (Q_move rfl) ?_
   refine Lq (Q_move rfl) ?_
   refine Lq (Q_move rfl) ?_
   refine Lq (Q_ixAt 5 1 rfl rfl rfl rfl (by decide) rfl) ?_
   refine Lq (Q_ldEAAt 5 1 0 (vs := tlV (0, vote0 2 vA)) rfl rfl rfl rfl (by decide) (by decide) rfl) ?_
   refine L_o rfl rfl rfl (O_call [0,1,3,4] [2,5,6,7,8,9] (ctakeF_ok E p pa pv Sl Sw [] (vote0 2 vA) (agA 0 vA) (agB 0 vA) [] [vote0 2 vA] [vote0 3 vA] (by decide) (by decide) (by decide) (tk2_ok E pa pv 0 vA hmv) rfl) rfl rfl ?_)
   rintro _ _ ⟨T2, rfl, rfl⟩
   refine JL.norm ?_
   refine L_o rfl rfl rfl (O_app (τ := tTa) 6 rfl (fun w h => h.rd 4 rfl) rfl rfl rfl rfl (by decide) (by decide) (fun T3 => ?_))
   refine JL.norm ?_
   refine Lq (Q_assign rfl) ?_
   refine JL_nil ?_
   refine blockQ_normal ?_
   refine seqQ_normal ?_
   refine J_region ?_
   refine Lq (Q_move rfl) ?_
   refine Lq (Q_add rfl rfl (by first | exact IntWalk.i64_in _ (by omega) | exact IntWalk.u8_in _ (by omega) | exact IntWalk.u32_in _ (by omega) | exact IntWalk.u64_in _ (by omega) | rfl)) ?_
   refine Lq (Q_assign rfl) ?_
   refine JL_nil ?_
   exact loopQ_normal ⟨2, T3, pa, pv, Sl, Sw⟩ (show 2 ≤ 3 by decide) (by show 3 - 2 < 3 - 1; decide) ⟨rfl, rfl, rfl, rfl, rfl, trivial⟩ (Ent.pick [0,1,5,2,3,6,7,8,9,10] _ rfl)
  | 2, _ =>
   show J _ _ _ _ _ _ [chC p true (.pointer (some ⟨pa, 0, none⟩)) Sl.v Sw.v, slc tS true Sl [], slc tS true Sw [vA], agC pa (agB 0 vA) pv .nilFunc, votA pv [vote0 2 vA], slc tTa true T [(0, prop0 vA), (0, vote0 2 vA), (0, vote0 3 vA)], kvA pk K0, folC pf 0 hd0 tl0, folM tl0, F]
   refine J_seq ?_
   refine Sr ?_
   refine Lq (Q_move rfl) ?_
   refine Lq (Q_move rfl) ?_
   refine Lq (Q_lenAt 5 rfl rfl) ?_
   refine Lq ((Q_lss rfl rfl).as (v' := .bool true) rfl) ?_
   refine Lq (Q_move rfl) ?_
   refine Lq (Q_move rfl) ?_
   refine Lq ((Q_lss rfl rfl).as (v' := .bool true) rfl) ?_
   refine Lq (Q_pickT rfl rfl) ?_
   refine Ln ?_
   refine J_condT rfl ?_
   refine J_skip ?_
   refine seqQ_normal ?_
   refine J_seq ?_
   refine J_block ?_
   refine J_region ?_
   refine Lq (Q_move rfl) ?_
   refine Lq (Q_move rfl) ?_
   refine Lq (Q_move rfl) ?_
   refine Lq (Q_move rfl) ?_
   refine Lq (Q_ixAt 5 2 rfl rfl rfl rfl (by decide) rfl) ?_
   refine Lq (Q_ldEAAt 5 2 0 (vs := tlV (0, vote0 3 vA)) rfl rfl rfl rfl (by decide) (by decide) rfl) ?_
   refine L_o rfl rfl rfl (O_call [0,1,3,4,2] [5,6,7,8,9] (ctakeT_ok E p pa pv Sl Sw [] [vA] (vote0 3 vA) (agB 0 vA) (agD 0 vA) [vote0 2 vA] [vote0 2 vA, vote0 3 vA] [] vA (by decide) (by decide) (by decide) (by intro v hv; simp at hv; subst hv; exact hmv) (by decide) (tk3_ok E pa pv 0 vA hmv) rfl rfl) rfl rfl ?_)
   rintro _ _ ⟨pa', pv', Tl, Tw, T2, rfl, rfl⟩
   refine JL.norm ?_
   refine L_o rfl rfl rfl (O_app (τ := tTa) 6 rfl (fun w h => h.rd 5 rfl) rfl rfl rfl rfl (by decide) (by decide) (fun T3 => ?_))
   refine JL.norm ?_
   refine Lq (Q_assign rfl) ?_
   refine JL_nil ?_
   refine blockQ_normal ?_
   refine seqQ_normal ?_
   refine J_region ?_
   refine Lq (Q_move rfl) ?_
   refine Lq (Q_add rfl rfl (by first | exact IntWalk.i64_in _ (by omega) | exact IntWalk.u8_in _ (by omega) | exact IntWalk.u32_in _ (by omega) | exact IntWalk.u64_in _ (by omega) | rfl)) ?_
   refine Lq (Q_assign rfl) ?_
   refine JL_nil ?_
   exact loopQ_normal ⟨3, T3, pa', pv', Tl, Tw⟩ (show 3 ≤ 3 by decide) (by show 3 - 3 < 3 - 2; decide) ⟨rfl, rfl, rfl, rfl, rfl, trivial⟩ (Ent.pick [0,1,4,2,3,6,7,8,9,10] _ rfl)
  | 3, _ =>
   show J _ _ _ _ _ _ [chC p true (.pointer (some ⟨pa, 0, none⟩)) Sl.v Sw.v, slc tS true Sl [vA], slc tS true Sw [], agC pa (ag1 1 none0) pv .nilFunc, votA pv [], slc tTa true T (wayA 3), kvA pk K0, folC pf 0 hd0 tl0, folM tl0, F]
   refine J_seq ?_
   refine Sr ?_
   refine Lq (Q_move rfl) ?_
   refine Lq (Q_move rfl) ?_
   refine Lq (Q_lenAt 5 rfl rfl) ?_
   refine Lq ((Q_lss rfl rfl).as (v' := .bool true) rfl) ?_
   refine Lq (Q_move rfl) ?_
   refine Lq (Q_move rfl) ?_
   refine Lq ((Q_lss rfl rfl).as (v' := .bool false) rfl) ?_
   refine Lq (Q_pickT rfl rfl) ?_
   refine Ln ?_
   refine J_condF rfl ?_
   refine J_exit ?_
   refine seqQ_exit ?_
   refine loopQ_exit ?_
   refine blockQ_hit ?_
   exact ⟨rfl, pa, pv, Sl, Sw, ⟨rfl, rfl, rfl, trivial⟩, Ent.re [0,1,6,7,8,9] rfl⟩
 rintro _ ρ1 L1 ⟨rfl, pa, pv, Sl, Sw, hsub, hent⟩
 refine seqQ_normal ?_
 refine J.sub hsub ?_
 refine J.ent hent ?_
 clear hsub hent
 refine Sr ?_
 refine Lq (Q_move rfl) ?_
 refine L_o rfl rfl rfl (O_call [0,1] [2,3,4,5] (clog_ok E p Sl [vA] true (.pointer (some ⟨pa, 0, none⟩)) Sw.v (by decide)) rfl rfl ?_)
 rintro _ _ ⟨Tl, rfl, rfl⟩
 refine JL.norm ?_
 refine Lq (Q_assign rfl) ?_
 refine Ln ?_
 refine J_seq ?_
 refine Sr ?_
 refine Lq (Q_assign rfl) ?_
 refine Ln ?_
 refine J_block ?_
 refine J.cutB (fun e ρ' L' => e = .normal ∧ ∃ m : Nat, envSub [(2, .pointer (some ⟨pf, 0, none⟩)), (3, .pointer (some ⟨pk, 0, none⟩)), (6, Tl.v)] ρ' ∧ Ent L' [slc tS true Tl [vA], kvA pk K1, folC pf 0 (updB hd0 1) (tlF m), folM (tlF m), F]) ?_ ?_
 ·refine J_loop (fun x : Nat × Nat => x.1 ≤ 1) (fun x => [(2, .pointer (some ⟨pf, 0, none⟩)), (3, .pointer (some ⟨pk, 0, none⟩)), (6, Tl.v), (7, .int .i64 (x.1 : Int))]) (fun x => [slc tS true Tl [vA], kvA pk (if x.1 = 0 then K0 else K1), folC pf 0 (if x.1 = 0 then hd0 else updB hd0 1) (if x.1 = 0 then tl0 else tlF x.2), folM (if x.1 = 0 then tl0 else tlF x.2), F]) (fun x => 1 - x.1) (0, 0) (Nat.zero_le _) ⟨rfl, rfl, rfl, rfl, trivial⟩ (Ent.re [2,3,4,5,6] rfl) ?_
  rintro ⟨i, m⟩ hi
  dsimp only at hi ⊢
  match i, hi with
  | 0, _ =>
   rw [if_pos rfl, if_pos rfl, if_pos rfl]
   refine J_seq ?_
   refine Sr ?_
   refine Lq (Q_move rfl) ?_
   refine Lq (Q_move rfl) ?_
   refine Lq (Q_lenAt 0 rfl rfl) ?_
   refine Lq ((Q_lss rfl rfl).as (v' := .bool true) rfl) ?_
   refine Ln ?_
   refine J_condT rfl ?_
   refine J_skip ?_
   refine seqQ_normal ?_
   refine J_seq ?_
   refine J_block ?_
   refine Sr ?_
   refine Lq (Q_move rfl) ?_
   refine Lq (Q_move rfl) ?_
   refine Lq (Q_move rfl) ?_
   refine Lq (Q_move rfl) ?_
   refine Lq (Q_ixAt 0 0 rfl rfl rfl rfl (by decide) rfl) ?_
   refine Lq (Q_ldEAt 0 0 0 (v := str vA) rfl rfl rfl rfl (by decide) (by decide) rfl) ?_
   refine L_o rfl rfl rfl (O_call [2,3] [0,1,4] (fputT_ok E pf 1 0 0 hd0 tl0 vA ⟨by decide, by decide, by decide, rfl⟩ (by decide) (by decide)) rfl rfl ?_)
   rintro _ _ ⟨m2, rfl, rfl⟩
   refine JL.norm ?_
   refine Ln ?_
   refine J_region ?_
   refine Lq (Q_move rfl) ?_
   refine Lq (Q_move rfl) ?_
   refine Lq (Q_move rfl) ?_
   refine Lq (Q_ixAt 2 0 rfl rfl rfl rfl (by decide) rfl) ?_
   refine Lq (Q_ldEAt 2 0 0 (v := str vA) rfl rfl rfl rfl (by decide) (by decide) rfl) ?_
   refine L_o rfl rfl rfl (O_call [3] [0,1,2,4] (hk1 pk) rfl rfl ?_)
   rintro _ _ ⟨rfl, rfl⟩
   refine JL.norm ?_
   refine JL_nil ?_
   refine blockQ_normal ?_
   refine seqQ_normal ?_
   refine J_region ?_
   refine Lq (Q_move rfl) ?_
   refine Lq (Q_add rfl rfl (by first | exact IntWalk.i64_in _ (by omega) | exact IntWalk.u8_in _ (by omega) | exact IntWalk.u32_in _ (by omega) | exact IntWalk.u64_in _ (by omega) | rfl)) ?_
   refine Lq (Q_assign rfl) ?_
   refine JL_nil ?_
   exact loopQ_normal (1, m2) (Nat.le_refl _) (by show 1 - 1 < 1 - 0; decide) ⟨rfl, rfl, rfl, rfl, trivial⟩ (Ent.pick [3,0,1,2,4] _ rfl)
  | 1, _ =>
   rw [if_neg (by decide), if_neg (by decide), if_neg (by decide)]
   refine J_seq ?_
   refine Sr ?_
   refine Lq (Q_move rfl) ?_
   refine Lq (Q_move rfl) ?_
   refine Lq (Q_lenAt 0 rfl rfl) ?_
   refine Lq ((Q_lss rfl rfl).as (v' := .bool false) rfl) ?_
   refine Ln ?_
   refine J_condF rfl ?_
   refine J_exit ?_
   refine seqQ_exit ?_
   refine loopQ_exit ?_
   refine blockQ_hit ?_
   exact ⟨rfl, m, ⟨rfl, rfl, rfl, trivial⟩, Ent.refl _⟩
 rintro _ ρ2 L2 ⟨rfl, m, hsub, hent⟩
 refine seqQ_normal ?_
 refine J.sub hsub ?_
 refine J.ent hent ?_
 clear hsub hent
 refine Sr ?_
 refine Lq (Q_move rfl) ?_
 refine L_o rfl rfl rfl (O_call [1] [0,2,3,4] (hk2 pk) rfl rfl ?_)
 rintro _ _ ⟨rfl, rfl⟩
 refine JL.norm ?_
 refine Ln ?_
 refine Sr ?_
 refine Lq (Q_move rfl) ?_
 refine L_o rfl rfl rfl (O_call [0] [1,2,3,4] (hk3 pk) rfl rfl ?_)
 rintro _ _ ⟨rfl, rfl⟩
 refine JL.norm ?_
 refine Ln ?_
 refine Sr ?_
 refine Lq (Q_move rfl) ?_
 refine L_o rfl rfl rfl (O_call [0] [1,2,3,4] (hk4 pk) rfl rfl ?_)
 rintro _ _ ⟨rfl, rfl⟩
 refine JL.norm ?_
 refine Lq (Q_move rfl) ?_
 refine Lq (Q_extract (v := str [120]) rfl rfl) ?_
 refine Lq (Q_extract (v := .int .i64 0) rfl rfl) ?_
 refine Lq (Q_assign rfl) ?_
 refine Lq (Q_assign rfl) ?_
 refine Ln ?_
 refine Sr ?_
 refine Lq (Q_move rfl) ?_
 refine L_o rfl rfl rfl (O_call [2] [0,1,3,4] (flog_ok E pf 0 (updB hd0 1) (tlF m)) rfl rfl ?_)
 (rintro _ _ ⟨k, S, hk, h1, h2, rfl, rfl⟩; obtain rfl := tlF_log hk h1 h2)
 refine JL.norm ?_
 refine Lq (Q_move rfl) ?_
 refine L_o rfl rfl rfl (O_call [1,3] [0,2,4,5] (rtexts_ok E true true S Tl [vA] [vA] (by decide)) rfl rfl ?_)
 rintro _ _ ⟨rfl, rfl⟩
 refine JL.norm ?_
 refine Lq (Q_move rfl) ?_
 refine Lq (Q_move rfl) ?_
 refine Lq (Q_lenAt 1 rfl rfl) ?_
 refine Lq ((Q_eql rfl rfl).as (v' := .bool true) rfl) ?_
 refine Lq (Q_pickT rfl rfl) ?_
 refine Lq (Q_move rfl) ?_
 refine Lq (Q_move rfl) ?_
 refine Lq ((Q_seql rfl rfl).as (v' := .bool true) rfl) ?_
 refine Lq (Q_pickT rfl rfl) ?_
 refine Lq (Q_move rfl) ?_
 refine Lq (Q_move rfl) ?_
 refine Lq ((Q_eql rfl rfl).as (v' := .bool true) rfl) ?_
 refine Lq (Q_pickT rfl rfl) ?_
 refine Lq (Q_assign rfl) ?_
 refine Ln ?_
 refine J_ret ?_
 exact retQ_ret _ [] (.cons (RV_tmp rfl) .nil) ⟨rfl, rfl⟩ (Ent.re [5] rfl)
end Go.Proofs
/- A chain of one node: values that others decided, caught; texts compared that are read where they lie. -/
set_option autoImplicit false
namespace Go.Proofs
open Go.SL Go.Proofs.Bt
abbrev RdyS (E : World) (C : HProp) (S : SV) (l : List Ky) : Prop := ∀ (w : World) (L : List HProp), Sat E w (C :: L) → Rd tS w S l
theorem RdyS.slc {E : World} {f : Bool} {S : SV} {l : List Ky} : RdyS E (slc tS f S l) S l := fun _ _ hs => hs.rd 0 rfl
theorem RdyS.sub {E : World} {C : HProp} {S : SV} {l : List Ky} (h : RdyS E C S l) (k : Nat) (hk : k ≤ l.length) : RdyS E C (S.sub 1 0 k) (l.take k) := fun w L hs => (h w L hs).sub 0 k (Nat.zero_le _) hk
theorem RdyS.left {E : World} {C D : HProp} {S : SV} {l : List Ky} (h : RdyS E C S l) : RdyS E (star C D) S l := fun w L hs => h w (D :: L) hs.star
theorem RdyS.right {E : World} {C D : HProp} {S : SV} {l : List Ky} (h : RdyS E D S l) : RdyS E (star C D) S l := fun w L hs => h w (C :: L) (Sat.swap2 hs.star)
theorem takeW_stop {l : List Ky} {k : Nat} (h : ∀ v ∈ l.take k, mayV v = true) (hk : k < l.length) (hn : mayV l[k] = false) : l.takeWhile mayV = l.take k := by
 induction l generalizing k with
 | nil => simp at hk
 | cons a l ih =>
  cases k with
  | zero =>
   have : mayV a = false := hn
   simp [this]
  | succ k =>
   have ha : mayV a = true := h a (by simp)
   rw [List.takeWhile_cons, ha, List.take_succ_cons]
   simp only [if_true]
   rw [ih (fun v hv => h v (by simp [hv])) (by simpa using hk) hn]
theorem takeW_all {l : List Ky} (h : ∀ v ∈ l, mayV v = true) : l.takeWhile mayV = l := by
 induction l with
 | nil => rfl
 | cons a l ih => rw [List.takeWhile_cons, h a (by simp)]; simp only [if_true]; rw [ih fun v hv => h v (by simp [hv])]
structure Cx where
 i : Nat
 part : Value
 Sl : SV
 Sw : SV
attribute [local irreducible] J JL QOp JOp seqQ blockQ loopQ retQ slc cel hex star pur stars Does RV Ent pAt scopeQ
attribute [local irreducible] votA agL zer63 bz122
theorem ccatch_ok (E : World) (p : Nat) (Sl Sw : SV) (part : Value) (C : HProp) (S : SV) (l : List Ky) (hC : RdyS E C S l) (hl : l.length ≤ 60) : Does Tryz.prog E 8 [.pointer (some ⟨p, 0, none⟩), S.v] [C, chC p true part Sl.v Sw.v, slc tS true Sl [], slc tS true Sw []] fun r L => ∃ (z : Int) (part' : Value) (Tl Tw : SV), r = .int .i64 z ∧ L = [C, chC p true part' Tl.v Tw.v, slc tS true Tl (l.takeWhile mayV), slc tS true Tw []] := by
 refine Does.of Tryz.func8 rfl Tryz.ntmps8 rfl rfl fun F => ?_
 refine J.norm ?_
 refine Sr ?_
 refine Lq (Q_assign rfl) ?_
 refine Ln ?_
 refine J_seq ?_
 refine Sr ?_
 refine Lq (Q_move rfl) ?_
 refine Lq ((Q_peql rfl rfl).as (v' := .bool false) rfl) ?_
 refine Lq (Q_move rfl) ?_
 refine Lq (Q_move rfl) ?_
 refine Lq (Q_nilCheck rfl) ?_
 refine Lq (Q_fa0 rfl) ?_
 refine Lq (Q_ld 1 rfl rfl rfl rfl) ?_
 refine Lq ((Q_not rfl).as (v' := .bool false) rfl) ?_
 refine Lq (Q_pickF rfl rfl) ?_
 refine Ln ?_
 refine J_condF rfl ?_
 refine J_skip ?_
 refine seqQ_normal ?_
 refine J_seq ?_
 refine Sr ?_
 refine Lq (Q_move rfl) ?_
 refine Lq (Q_len (m := l) (fun w hs => hC w _ hs) rfl) ?_
 refine Lq (Q_move rfl) ?_
 refine Ln ?_
 refine J_block ?_
 refine J_loop (fun x : Cx => x.i ≤ l.length ∧ ∀ v ∈ l.take x.i, mayV v = true) (fun x => [(0, .pointer (some ⟨p, 0, none⟩)), (1, S.v), (16, S.v), (17, .int .i64 (l.length : Int)), (18, .int .i64 (x.i : Int))]) (fun x => [C, chC p true x.part x.Sl.v x.Sw.v, slc tS true x.Sl (l.take x.i), slc tS true x.Sw [], F]) (fun x => l.length - x.i) ⟨0, part, Sl, Sw⟩ ⟨Nat.zero_le _, by simp⟩ ⟨rfl, rfl, rfl, rfl, rfl, trivial⟩ (Ent.refl _) ?_
 rintro ⟨k, part, Sl, Sw⟩ ⟨hk, hall⟩
 dsimp only at hk hall ⊢
 refine Sr ?_
 refine Lq (Q_lss rfl rfl) ?_
 refine Ln ?_
 refine J_seq ?_
 refine J_condD rfl (fun h2 => ?_) (fun h2 => ?_)
 ·have hlt : k < l.length := by omega
  have hmy := cmay_ok E l[k]
  have hlk : (l.take k).length < 63 := by rw [List.length_take]; omega
  have hov := cover_ok E p Sl (l.take k) true part Sw.v (by omega)
  have hdc := cdecided_ok E p Sl Sw (l.take k) [] true part l[k] hlk (by simp) (by simp)
  rw [show delW [] l[k] = [] by simp [delW]] at hdc
  cases hm : mayV l[k] with
  | true =>
   rw [hm] at hmy
   have hst : l.take (k + 1) = l.take k ++ [l[k]] := List.take_succ_eq_append_getElem hlt
   refine J_skip ?_
   refine seqQ_normal ?_
   refine J_seq ?_
   refine J_block ?_
   refine Sr ?_
   refine Lq (Q_move rfl) ?_
   refine Lq (Q_ix (m := l) k (fun w hs => hC w _ hs) rfl rfl rfl hlt rfl) ?_
   refine Lq (Q_ldE (m := l) k 0 (v := str l[k]) (fun w hs => hC w _ hs) rfl rfl rfl hlt (by decide) rfl) ?_
   refine Lq (Q_assign rfl) ?_
   refine Lq (Q_assign rfl) ?_
   refine Ln ?_
   refine J_seq ?_
   refine Sr ?_
   refine Lq (Q_move rfl) ?_
   refine L_o rfl rfl rfl (O_call [] [0,1,2,3,4] hmy rfl rfl ?_)
   rintro _ _ ⟨rfl, rfl⟩
   refine JL.norm ?_
   refine Lq ((Q_not rfl).as (v' := .bool false) rfl) ?_
   refine Lq (Q_move rfl) ?_
   refine Lq (Q_move rfl) ?_
   refine L_o rfl rfl rfl (O_call [1,2] [0,3,4] hov rfl rfl ?_)
   rintro _ _ ⟨rfl, rfl⟩
   refine JL.norm ?_
   refine Lq (Q_pickF rfl rfl) ?_
   refine Ln ?_
   refine J_condF rfl ?_
   refine J_skip ?_
   refine seqQ_normal ?_
   refine J_region ?_
   refine Lq (Q_move rfl) ?_
   refine Lq (Q_move rfl) ?_
   refine L_o rfl rfl rfl (O_call [0,1,3] [2,4] hdc rfl rfl ?_)
   rintro _ _ ⟨pa, pv, Tl, Tw, T, rfl, rfl⟩
   refine JL.norm ?_
   refine JL_nil ?_
   refine blockQ_normal ?_
   refine seqQ_normal ?_
   refine J_region ?_
   refine Lq (Q_add rfl rfl (by first | exact IntWalk.i64_in _ (by omega) | exact IntWalk.u8_in _ (by omega) | exact IntWalk.u32_in _ (by omega) | exact IntWalk.u64_in _ (by omega) | rfl)) ?_
   refine Lq (Q_move rfl) ?_
   refine JL_nil ?_
   refine loopQ_normal ⟨k + 1, .pointer (some ⟨pa, 0, none⟩), Tl, Tw⟩ ⟨hlt, ?_⟩ (by show l.length - (k + 1) < l.length - k; omega) ⟨rfl, rfl, rfl, rfl, rfl, trivial⟩ (by dsimp only; rw [hst]; exact Ent.re [6,0,1,2,7] rfl)
   intro v hv
   dsimp only at hv
   rw [hst] at hv
   rcases List.mem_append.1 hv with hv | hv
   ·exact hall v hv
   ·rw [List.mem_singleton.1 hv]; exact hm
  | false =>
   rw [hm] at hmy
   refine J_skip ?_
   refine seqQ_normal ?_
   refine J_seq ?_
   refine J_block ?_
   refine Sr ?_
   refine Lq (Q_move rfl) ?_
   refine Lq (Q_ix (m := l) k (fun w hs => hC w _ hs) rfl rfl rfl hlt rfl) ?_
   refine Lq (Q_ldE (m := l) k 0 (v := str l[k]) (fun w hs => hC w _ hs) rfl rfl rfl hlt (by decide) rfl) ?_
   refine Lq (Q_assign rfl) ?_
   refine Lq (Q_assign rfl) ?_
   refine Ln ?_
   refine J_seq ?_
   refine Sr ?_
   refine Lq (Q_move rfl) ?_
   refine L_o rfl rfl rfl (O_call [] [0,1,2,3,4] hmy rfl rfl ?_)
   rintro _ _ ⟨rfl, rfl⟩
   refine JL.norm ?_
   refine Lq ((Q_not rfl).as (v' := .bool true) rfl) ?_
   refine Lq (Q_move rfl) ?_
   refine L_n rfl rfl rfl ?_
   refine L_n rfl rfl rfl ?_
   refine Lq (Q_pickT rfl rfl) ?_
   refine Ln ?_
   refine J_condT rfl ?_
   refine Sr ?_
   refine Lq (Q_move rfl) ?_
   refine Lq (Q_assign rfl) ?_
   refine Ln ?_
   refine J_ret ?_
   refine seqQ_ret ?_
   refine blockQ_ret ?_
   refine seqQ_ret ?_
   refine loopQ_ret ?_
   refine blockQ_ret ?_
   refine seqQ_ret ?_
   exact retQ_ret _ [C, chC p true part Sl.v Sw.v, slc tS true Sl (l.takeWhile mayV), slc tS true Sw []] (.cons (RV_tmp rfl) .nil) ⟨_, part, Sl, Sw, rfl, rfl⟩ (by rw [takeW_stop hall hlt hm]; exact Ent.refl _)
 ·obtain rfl : k = l.length := by omega
  rw [List.take_length] at hall ⊢
  refine J_exit ?_
  refine seqQ_exit ?_
  refine loopQ_exit ?_
  refine blockQ_hit ?_
  refine seqQ_normal ?_
  refine Sr ?_
  refine Lq (Q_move rfl) ?_
  refine Lq (Q_len (m := l) (fun w hs => hC w _ hs) rfl) ?_
  refine Lq (Q_assign rfl) ?_
  refine Ln ?_
  refine J_ret ?_
  exact retQ_ret _ [C, chC p true part Sl.v Sw.v, slc tS true Sl (l.takeWhile mayV), slc tS true Sw []] (.cons (RV_tmp rfl) .nil) ⟨_, part, Sl, Sw, rfl, rfl⟩ (by rw [takeW_all hall]; exact Ent.refl _)
theorem rtextsE_ok (E : World) (C : HProp) (S S' : SV) (l : List Ky) (hS : RdyS E C S l) (hS' : RdyS E C S' l) (hl : l.length ≤ 100000) : Does Tryz.prog E 13 [S.v, S'.v] [C] fun v L => v = .bool true ∧ L = [C] := by
 refine Does.of Tryz.func13 rfl Tryz.ntmps13 rfl rfl fun F => ?_
 refine J.norm ?_
 refine Sr ?_
 refine Lq (Q_assign rfl) ?_
 refine Ln ?_
 refine J_seq ?_
 refine Sr ?_
 refine Lq (Q_move rfl) ?_
 refine Lq (Q_len (m := l) (fun w hs => hS w _ hs) rfl) ?_
 refine Lq (Q_move rfl) ?_
 refine Lq (Q_len (m := l) (fun w hs => hS' w _ hs) rfl) ?_
 refine Lq ((Q_neq rfl rfl).as (v' := .bool false) (congrArg Value.bool (decide_eq_false (by simp)))) ?_
 refine Ln ?_
 refine J_condF rfl ?_
 refine J_skip ?_
 refine seqQ_normal ?_
 refine J_seq ?_
 refine Sr ?_
 refine Lq (Q_assign rfl) ?_
 refine Ln ?_
 refine J_block ?_
 refine J_loop (fun i : Nat => i ≤ l.length) (fun i => [(0, S.v), (1, S'.v), (5, .int .i64 (i : Int))]) (fun _ => [C, F]) (fun i => l.length - i) 0 (Nat.zero_le _) ⟨rfl, rfl, rfl, trivial⟩ (Ent.refl _) ?_
 intro k hk
 refine J_seq ?_
 refine Sr ?_
 refine Lq (Q_move rfl) ?_
 refine Lq (Q_move rfl) ?_
 refine Lq (Q_len (m := l) (fun w hs => hS w _ hs) rfl) ?_
 refine Lq (Q_lss rfl rfl) ?_
 refine Ln ?_
 refine J_condD rfl (fun h2 => ?_) (fun h2 => ?_)
 ·have hlt : k < l.length := by omega
  refine J_skip ?_
  refine seqQ_normal ?_
  refine J_seq ?_
  refine J_block ?_
  refine J_seq ?_
  refine DH [0] [0,1,2,3,4,5,6,7,8] (.quiet 0 (.quiet 1 (.quiet 2 (.quiet 3 (.quiet 4 (.quiet 5 (.quiet 6 (.quiet 7 (.quiet 8 .done))))))))) Tryz.mixed ?_
  refine Sq (Ent.re [0] rfl) rfl (Q_move rfl) ?_
  refine Sq (Ent.re [0] rfl) rfl (Q_move rfl) ?_
  refine Sq (Ent.re [0] rfl) rfl (Q_ix (m := l) k (fun w hs => hS w _ hs) rfl rfl rfl hlt rfl) ?_
  refine Sq (Ent.re [0] rfl) rfl (Q_ldE (m := l) k 0 (v := str l[k]) (fun w hs => hS w _ hs) rfl rfl rfl hlt (by decide) rfl) ?_
  refine Sq (Ent.re [0] rfl) rfl (Q_move rfl) ?_
  refine Sq (Ent.re [0] rfl) rfl (Q_move rfl) ?_
  refine Sq (Ent.re [0] rfl) rfl (Q_ix (m := l) k (fun w hs => hS' w _ hs) rfl rfl rfl hlt rfl) ?_
  refine Sq (Ent.re [0] rfl) rfl (Q_ldE (m := l) k 0 (v := str l[k]) (fun w hs => hS' w _ hs) rfl rfl rfl hlt (by decide) rfl) ?_
  refine Sq (Ent.re [0] rfl) rfl ((Q_sneq rfl rfl).as (v' := .bool false) (congrArg Value.bool (decide_eq_false (by simp)))) ?_
  refine S_nil ?_
  refine seqQ_normal ?_
  refine J_condF rfl ?_
  refine J_skip ?_
  refine blockQ_normal ?_
  refine seqQ_normal ?_
  refine J_region ?_
  refine Lq (Q_move rfl) ?_
  refine Lq (Q_add rfl rfl (by first | exact IntWalk.i64_in _ (by omega) | exact IntWalk.u8_in _ (by omega) | exact IntWalk.u32_in _ (by omega) | exact IntWalk.u64_in _ (by omega) | rfl)) ?_
  refine Lq (Q_assign rfl) ?_
  refine JL_nil ?_
  exact loopQ_normal (k + 1) hlt (by omega) ⟨rfl, rfl, rfl, trivial⟩ (Ent.refl _)
 ·refine J_exit ?_
  refine seqQ_exit ?_
  refine loopQ_exit ?_
  refine blockQ_hit ?_
  refine seqQ_normal ?_
  refine Sr ?_
  refine Lq (Q_assign rfl) ?_
  refine Ln ?_
  refine J_ret ?_
  exact retQ_ret _ [C] (.cons (RV_tmp rfl) .nil) ⟨rfl, rfl⟩ (Ent.refl _)
end Go.Proofs
/- One who follows, plainly: who told what; how often; that the honest are among those. -/
set_option autoImplicit false
namespace Go.Proofs
open Go.SL Go.Proofs.Bt
/-- What was said of a height, by whom. -/
abbrev Sd := Nat → Nat → Option Ky
def one (s : Nat → Option Ky) (f : Nat) (v : Ky) : Int := if s f = some v then 1 else 0
def cnt (s : Nat → Option Ky) (v : Ky) : Int := one s 1 v + one s 2 v + one s 3 v + one s 4 v + one s 5 v + one s 6 v + one s 7 v
def sayS (s : Sd) (h f : Nat) (v : Ky) : Sd := fun h' f' => if h' = h ∧ f' = f then some v else s h' f'
theorem one_le (s : Nat → Option Ky) (f : Nat) (v : Ky) : 0 ≤ one s f v ∧ one s f v ≤ 1 := by unfold one; split <;> omega
theorem cntS_le (s : Nat → Option Ky) (v : Ky) : 0 ≤ cnt s v ∧ cnt s v ≤ 7 := by
 have h1 := one_le s 1 v; have h2 := one_le s 2 v; have h3 := one_le s 3 v; have h4 := one_le s 4 v; have h5 := one_le s 5 v; have h6 := one_le s 6 v; have h7 := one_le s 7 v
 unfold cnt; omega
theorem one_ne {s : Sd} {h f f' : Nat} {v x : Ky} (hf : f' ≠ f) : one (sayS s h f v h) f' x = one (s h) f' x := by simp [one, sayS, hf]
theorem one_eq {s : Sd} {h f : Nat} {v x : Ky} (hn : s h f = none) : one (sayS s h f v h) f x = one (s h) f x + if x = v then 1 else 0 := by
 by_cases e : x = v
 ·subst e; simp [one, sayS, hn]
 ·have : ¬ v = x := fun h => e h.symm
  simp [one, sayS, hn, e, this]
theorem cnt_say {s : Sd} {h f : Nat} {v : Ky} (h1 : 1 ≤ f) (h7 : f ≤ 7) (hn : s h f = none) (x : Ky) : cnt (sayS s h f v h) x = cnt (s h) x + if x = v then 1 else 0 := by
 unfold cnt
 have key : ∀ f', f' ≠ f → one (sayS s h f v h) f' x = one (s h) f' x := fun f' hf => one_ne hf
 have self : one (sayS s h f v h) f x = one (s h) f x + if x = v then 1 else 0 := one_eq hn
 generalize hd : (if x = v then (1 : Int) else 0) = d at *
 have : f = 1 ∨ f = 2 ∨ f = 3 ∨ f = 4 ∨ f = 5 ∨ f = 6 ∨ f = 7 := by omega
 rcases this with rfl | rfl | rfl | rfl | rfl | rfl | rfl
 ·rw [self, key 2 (by decide), key 3 (by decide), key 4 (by decide), key 5 (by decide), key 6 (by decide), key 7 (by decide)]; omega
 ·rw [self, key 1 (by decide), key 3 (by decide), key 4 (by decide), key 5 (by decide), key 6 (by decide), key 7 (by decide)]; omega
 ·rw [self, key 1 (by decide), key 2 (by decide), key 4 (by decide), key 5 (by decide), key 6 (by decide), key 7 (by decide)]; omega
 ·rw [self, key 1 (by decide), key 2 (by decide), key 3 (by decide), key 5 (by decide), key 6 (by decide), key 7 (by decide)]; omega
 ·rw [self, key 1 (by decide), key 2 (by decide), key 3 (by decide), key 4 (by decide), key 6 (by decide), key 7 (by decide)]; omega
 ·rw [self, key 1 (by decide), key 2 (by decide), key 3 (by decide), key 4 (by decide), key 5 (by decide), key 7 (by decide)]; omega
 ·rw [self, key 1 (by decide), key 2 (by decide), key 3 (by decide), key 4 (by decide), key 5 (by decide), key 6 (by decide)]; omega
theorem say_far {s : Sd} {h f h' : Nat} {v : Ky} (hh : h' ≠ h) : sayS s h f v h' = s h' := by funext f'; simp [sayS, hh]
/-- What holds of one who follows: lg is the longest log; t tell anything. -/
structure FI (t : Nat) (lg : List Ky) (hd : Nat → Bool) (tl : Nat → Hg) (s : Sd) : Prop where
 hd : ∀ h f, h < 64 → 1 ≤ f → f ≤ 7 → hd (h * 8 + f) = (s h f).isSome
 hon : ∀ h f v, t < f → s h f = some v → lg[h]? = some v
 cn : ∀ h x, cntG (tl h) x = cnt (s h) x
 td : ∀ h, (tl h).told = true → (t : Int) + 1 ≤ cnt (s h) (tl h).first
theorem fi_new (t : Nat) (lg : List Ky) : FI t lg (fun _ => false) (fun _ => ⟨none, [], false⟩) (fun _ _ => none) :=
 ⟨fun _ _ _ _ _ => rfl, by simp, fun h x => by simp [cntG, mapG, mget, cnt, one], by simp⟩
theorem cntG_add (g : Hg) (m : Nat) (v : Ky) (need : Int) (x : Ky) : cntG (addG g m v need) x = cntG g x + if x = v then 1 else 0 := by
 have h1 : cntG (addG g m v need) x = (mget (mset (mapG g) v (cntG g v + 1)) x).getD 0 := rfl
 rw [h1, mget_mset]
 by_cases e : x = v
 ·subst e; simp
 ·rw [if_neg fun e2 => e e2.symm, if_neg e]; simp [cntG]
theorem FI.put {t : Nat} {lg : List Ky} {hd : Nat → Bool} {tl : Nat → Hg} {s : Sd} (H : FI t lg hd tl s) {h f : Nat} {v : Ky} (hok : OkF hd f h v) (hv : t < f → lg[h]? = some v) (m : Nat) :
 FI t lg (updB hd (h * 8 + f)) (updG tl h (addG (tl h) m v (t + 1))) (sayS s h f v) := by
 obtain ⟨hh, ⟨hf1, hf7⟩, _, hnew⟩ := hok
 have hnone : s h f = none := by
  have := H.hd h f hh hf1 hf7
  rw [hnew] at this
  cases e : s h f with
  | none => rfl
  | some x => rw [e] at this; cases this
 have hcs := fun x => cnt_say (v := v) hf1 hf7 hnone x
 have hca := fun x => cntG_add (tl h) m v ((t : Int) + 1) x
 refine ⟨?_, ?_, ?_, ?_⟩
 ·intro h' f' a b c
  by_cases e : h' = h ∧ f' = f
  ·obtain ⟨rfl, rfl⟩ := e
   simp [updB, sayS]
  ·have hne : h' * 8 + f' ≠ h * 8 + f := fun e2 => e (by omega)
   simp only [updB, if_neg hne, sayS, if_neg e]
   exact H.hd h' f' a b c
 ·intro h' f' x a b
  by_cases e : h' = h ∧ f' = f
  ·obtain ⟨rfl, rfl⟩ := e
   simp only [sayS, and_self, if_true, Option.some.injEq] at b
   subst b; exact hv a
  ·simp only [sayS, if_neg e] at b
   exact H.hon h' f' x a b
 ·intro h' x
  by_cases e : h' = h
  ·subst e
   rw [updG_at, hca, hcs, H.cn]
  ·rw [say_far e]
   simp only [updG, if_neg e]
   exact H.cn h' x
 ·intro h' ht
  by_cases e : h' = h
  ·subst e
   rw [updG_at] at ht ⊢
   have hc := H.cn h' v
   by_cases c : (tl h').told = false ∧ (t : Int) + 1 ≤ cntG (tl h') v + 1
   ·have hfst : (addG (tl h') m v ((t : Int) + 1)).first = v := by simp [addG, c]
    rw [hfst, hcs, if_pos rfl]; omega
   ·have hfst : (addG (tl h') m v ((t : Int) + 1)).first = (tl h').first := by
     show (if (tl h').told = false ∧ (t : Int) + 1 ≤ cntG (tl h') v + 1 then v else (tl h').first) = _
     rw [if_neg c]
    have hto : (tl h').told = true := by
     cases e2 : (tl h').told with
     | true => rfl
     | false =>
      have : (addG (tl h') m v ((t : Int) + 1)).told = ((tl h').told || decide ((t : Int) + 1 ≤ cntG (tl h') v + 1)) := rfl
      rw [this, e2, Bool.false_or] at ht
      exact absurd ⟨e2, of_decide_eq_true ht⟩ c
    rw [hfst, hcs]
    have := H.td h' hto
    split <;> omega
  ·rw [say_far e]
   simp only [updG, if_neg e] at ht ⊢
   exact H.td h' ht
/-- What is told is what the longest log holds. -/
theorem FI.told {t : Nat} {lg : List Ky} {hd : Nat → Bool} {tl : Nat → Hg} {s : Sd} (H : FI t lg hd tl s) (ht : t ≤ 2) {h : Nat} (hto : (tl h).told = true) : lg[h]? = some (tl h).first := by
 have h1 := H.td h hto
 by_cases e : ∃ f, t < f ∧ s h f = some (tl h).first
 ·obtain ⟨f, a, b⟩ := e; exact H.hon h f _ a b
 ·have z : ∀ f, t < f → one (s h) f (tl h).first = 0 := fun f hf => by unfold one; rw [if_neg fun e2 => e ⟨f, hf, e2⟩]
  have a1 := one_le (s h) 1 (tl h).first
  have a2 := one_le (s h) 2 (tl h).first
  unfold cnt at h1
  rw [z 3 (by omega), z 4 (by omega), z 5 (by omega), z 6 (by omega), z 7 (by omega)] at h1
  have : t = 0 ∨ t = 1 ∨ t = 2 := by omega
  rcases this with rfl | rfl | rfl
  ·rw [z 1 (by omega), z 2 (by omega)] at h1; simp at h1
  ·rw [z 2 (by omega)] at h1; omega
  ·omega
theorem FI.pre {t : Nat} {lg : List Ky} {hd : Nat → Bool} {tl : Nat → Hg} {s : Sd} (H : FI t lg hd tl s) (ht : t ≤ 2) {k : Nat} (hk : ∀ h, h < k → (tl h).told = true) : k ≤ lg.length ∧ ((List.range k).map fun h => (tl h).first) = lg.take k := by
 have hle : k ≤ lg.length := by
  cases k with
  | zero => exact Nat.zero_le _
  | succ k =>
   have := H.told ht (hk k (Nat.lt_succ_self k))
   exact (List.getElem?_eq_some_iff.1 this).1
 refine ⟨hle, ?_⟩
 apply List.ext_getElem?
 intro i
 by_cases hi : i < k
 ·rw [List.getElem?_map, List.getElem?_range hi, List.getElem?_take_of_lt hi, H.told ht (hk i hi)]; rfl
 ·rw [List.getElem?_eq_none (by simp; omega), List.getElem?_eq_none (by simp; omega)]
end Go.Proofs
