/- Part 37 of the texts below the row: Vlt3, Vlt4, Sl41. -/
import Derived.Lib.Builder
import Derived.Lib.UnsafeStr
import Derived.Test.YtdggicfcpcjjlaaGreatDoorM1
import Derived.Test.YtdggicfcpcjjlaaGreatDoorM13
import Derived.Test.YtdggicfcpcjjlaaGreatDoorM33
import Derived.Test.YtdggicfcpcjjlaaGreatDoorM36
/- A vault: made of deals. -/
set_option autoImplicit false
namespace Go.Proofs
open Go.SL
noncomputable def vSh (polys : List (List W4)) (m i : Nat) : ShL := (List.range i).map fun j => (m + 1, valW (polys.getD j []) (m + 1))
noncomputable def vRw (polys : List (List W4)) (i : Nat) : List (List Pw) := (List.range i).map fun j => cmtL (polys.getD j [])
theorem vSh_succ (polys : List (List W4)) (m i : Nat) : vSh polys m (i + 1) = vSh polys m i ++ [(m + 1, valW (polys.getD i []) (m + 1))] := by unfold vSh; rw [List.range_succ, List.map_append]; rfl
theorem vRw_succ (polys : List (List W4)) (i : Nat) : vRw polys (i + 1) = vRw polys i ++ [cmtL (polys.getD i [])] := by unfold vRw; rw [List.range_succ, List.map_append]; rfl
/-- The parts that are laid: none ahead of the first dealer. -/
def vpH (C M CS MS : SV) (rows : List (SV × List Pw)) (sh : ShL) : Nat → List HProp
 | 0 => []
 | _ + 1 => [slc tPss true C [CS], slc tPs true CS (rows.map (·.1)), stars (rows.map rowP), slc tShs true M [MS], slc tSh true MS sh]
theorem Ent.vp_out {C M CS MS : SV} {rows : List (SV × List Pw)} {sh : ShL} {i : Nat} {L : List HProp} : Ent (stars (vpH C M CS MS rows sh (i + 1)) :: L) (slc tPss true C [CS] :: slc tPs true CS (rows.map (·.1)) :: stars (rows.map rowP) :: slc tShs true M [MS] :: slc tSh true MS sh :: L) := Ent.spread (R := vpH C M CS MS rows sh (i + 1))
theorem Ent.vp_in {C M CS MS : SV} {rows : List (SV × List Pw)} {sh : ShL} {i : Nat} {L : List HProp} : Ent (slc tPss true C [CS] :: slc tPs true CS (rows.map (·.1)) :: stars (rows.map rowP) :: slc tShs true M [MS] :: slc tSh true MS sh :: L) (stars (vpH C M CS MS rows sh (i + 1)) :: L) := Ent.gather (R := vpH C M CS MS rows sh (i + 1))
abbrev vrH (pl pw pg : Nat) : List HProp := [cel pl (lgL [] SV.nil) 172, slc tFl true SV.nil [], walA pw 0, gateA pg 0 (-1)]
theorem Ent.four_in {a b c d : HProp} {L : List HProp} : Ent (a :: b :: c :: d :: L) (stars [a, b, c, d] :: L) := Ent.gather (R := [a, b, c, d])
theorem Ent.four_out {a b c d : HProp} {L : List HProp} : Ent (stars [a, b, c, d] :: L) (a :: b :: c :: d :: L) := Ent.spread (R := [a, b, c, d])
theorem seqQ_cut {P : Program} {E : World} {n : Nat} {c : Code} {Q : Post} {ρ ρ' : Env} {L L' : List HProp} (hs : envSub ρ' ρ) (he : Ent L L') (h : J P E n c Q ρ' L') : seqQ P E n c Q .normal ρ L := J.sub hs (J.ent he h)
def chZ (n : Nat) : List Nat := (List.range n).map (· + 1)
theorem chZ_len (n : Nat) : (chZ n).length = n := by unfold chZ; simp
theorem chZ_get (n i : Nat) (h : i < (chZ n).length) : (chZ n)[i] = i + 1 := by simp [chZ]
attribute [local irreducible] J JL QOp JOp seqQ blockQ loopQ retQ slc cel hex star pur stars Does RV Ent pAt scopeQ JR seqR endR JLI DoesY
attribute [local irreducible] gaA walA gateA dlA
section
variable (E : World)
theorem vnew_ok (m : Nat) (hm : m < 4) (D CH : SV) (ds : List Dl) (polys : List (List W4)) (hds : DsOf ds 4 1 polys) (hK : 1 ≤ ds.length) (hK3 : ds.length ≤ 3) (hqs : ∀ c ∈ polys, ∀ k ∈ c, k.ok ∧ k.n < Nt.pQ) :
 Does Tryz.prog E 17 [.int .i64 4, .int .i64 1, .int .i64 ((m + 1 : Nat) : Int), D.v, CH.v, .int .i64 10, .int .i64 5] [slc tDl true D (ds.map hdD), stars (ds.map dlA), slc tN true CH (chZ ds.length)]
  fun v L => ∃ (p : Nat) (g : Ga), v = .tuple #[.pointer (some ⟨p, 0, none⟩), .int .i64 0] ∧ GaNew g (vRw polys ds.length) ∧ L = [vltA p m ⟨vSh polys m ds.length, [], [], 0, 0, -1, g⟩, slc tDl true D (ds.map hdD), stars (ds.map dlA), slc tN true CH (chZ ds.length)] := by
 have hl := lnew_ok E
 have hw := walnew_ok E
 have hg := rnew_ok E
 have hcl := chZ_len ds.length
 refine Does.of Tryz.func17 rfl Tryz.ntmps17 rfl rfl fun F => ?_
 refine Xb ?_
 refine Xbm ?_
 refine XbN ?_
 refine Lq ((Q_eql rfl rfl).as (v' := .bool false) (congrArg Value.bool (decide_eq_false ((by rw [hcl]; omega))))) ?_
 refine Xy ?_
 refine Xv ?_
 refine L_o rfl rfl rfl (O_call [] [0,1,2,3] hl rfl rfl ?_)
 rintro _ _ ⟨pl, rfl, rfl⟩
 refine Xc ?_
 refine L_o rfl rfl rfl (O_call [] [0,1,2,3,4,5] hw rfl rfl ?_)
 rintro _ _ ⟨pw, rfl, rfl⟩
 refine Xc ?_
 refine Xf ?_
 refine L_o rfl rfl rfl (O_call [] [0,1,2,3,4,5,6] hg rfl rfl ?_)
 rintro _ _ ⟨pg, rfl, rfl⟩
 refine Xc ?_
 refine Xk ?_
 refine L_o rfl rfl rfl (O_box rfl fun b32 => ?_)
 refine XC ?_
 refine XA ?_
 refine Lq ((Q_lenAt 7 rfl rfl).as (v' := .int .i64 (ds.length : Int)) (by rw [hcl])) ?_
 refine XJ ?_
 refine J_loop (fun i : Nat × SV × SV × SV × SV × List (SV × List Pw) => i.1 ≤ ds.length ∧ i.2.2.2.2.2.map (·.2) = vRw polys i.1 ∧ (i.1 = 0 → i.2.1 = SV.nil ∧ i.2.2.1 = SV.nil)) (fun i => [(0, .int .i64 4), (1, .int .i64 1), (2, .int .i64 ((m + 1 : Nat) : Int)), (3, D.v), (16, .pointer (some ⟨b32, 0, none⟩)), (17, .int .i64 (i.1 : Int)), (33, CH.v), (34, .int .i64 (ds.length : Int)), (35, .int .i64 (i.1 : Int))])
  (fun i => [cel b32 (vlL (m + 1) i.2.1 i.2.2.1 pl pw pg SV.nil) 122, stars (vpH i.2.1 i.2.2.1 i.2.2.2.1 i.2.2.2.2.1 i.2.2.2.2.2 (vSh polys m i.1) i.1), stars (vrH pl pw pg), slc tDl true D (ds.map hdD), stars (ds.map dlA), slc tN true CH (chZ ds.length), F]) (fun i => ds.length - i.1) (0, SV.nil, SV.nil, SV.nil, SV.nil, []) ⟨Nat.zero_le _, rfl, fun _ => ⟨rfl, rfl⟩⟩ ⟨rfl, rfl, rfl, rfl, rfl, rfl, rfl, rfl, rfl, trivial⟩ ((Ent.re [3,4,2,1,0,5,6,7,8] rfl).trans ((Ent.four_in (L := [_, _, _, _, _])).trans (Ent.stars_nil.trans (Ent.re [2,0,1,3,4,5,6] rfl)))) ?_
 rintro ⟨i, C, M, CS, MS, rows⟩ ⟨hi, hr, hi0⟩
 dsimp only at hi hr hi0 ⊢
 have hrl : rows.length = i := by have := congrArg List.length hr; unfold vRw at this; simpa using this
 by_cases h : i < ds.length
 ·have hic : i < (chZ ds.length).length := by omega
  have him : i < (ds.map hdD).length := by rw [List.length_map]; exact h
  have hgd : (ds.map hdD)[i]'him = hdD ds[i] := List.getElem_map ..
  have hdo := hds.of i h
  have hip : i < polys.length := by rw [hds.len]; exact h
  have hpm := List.getElem_mem hip
  have hdeg := hds.deg _ hpm
  have hpd : polys.getD i [] = polys[i] := getD_eq _ _ _ hip
  have hck := dcheck_ok E 4 1 m (by decide) (by decide) hm ds[i] [polys[i]] hdo (Nat.le_refl 1) (by show 1 ≤ 4; decide) (fun c hc => by rw [List.mem_singleton.1 hc]; exact hdeg) (fun c hc => by rw [List.mem_singleton.1 hc]; exact hqs _ hpm)
  have hshl : (vSh polys m i).length = i := by unfold vSh; simp
  have hlay := fun (C M CS MS : SV) (rows : List (SV × List Pw)) (hr : rows.length ≤ 100) => vlay_ok E b32 m C M pl pw pg SV.nil CS MS rows (vSh polys m i) hr (by omega) 4 hm (by decide) ds[i] polys[i] (by rw [hdeg]; decide) hdo
  have hback : ∀ L, Ent (dlA ds[i] :: stars ((ds.eraseIdx i).map dlA) :: L) (stars (ds.map dlA) :: L) := fun L => Ent.row_back dlA ds i h
  have hcl1 := hdo.clen
  have hdin : ∀ L, Ent (slc tPs true ds[i].C (ds[i].c.map (·.1)) :: stars (ds[i].c.map rowP) :: slc tNs true ds[i].V (ds[i].v.map (·.1)) :: stars (ds[i].v.map rowN) :: L) (dlA ds[i] :: L) := fun L => Ent.dl_in ds[i]
  refine Xaz ?_
  refine Lq (Q_ixAt 5 i rfl rfl rfl rfl hic rfl) ?_
  refine Lq (Q_ldEAt 5 i 0 (v := .int .i64 ((i + 1 : Nat) : Int)) rfl rfl rfl rfl hic (by decide) (by rw [chZ_get]; rfl)) ?_
  refine Xbj ?_
  refine J.ent ((Ent.re [4,0,1,2,3,5,6] rfl).trans ((Ent.row_out dlA ds i h).trans (Ent.dl_out ds[i]))) ?_
  generalize hdd : ds[i] = d at *
  refine Xl ?_
  refine Lq ((Q_leq rfl rfl).as (v' := .bool false) (congrArg Value.bool (decide_eq_false ((by omega))))) ?_
  refine X7 ?_
  refine Lq ((Q_lenAt 8 rfl rfl).as (v' := .int .i64 (ds.length : Int)) (by rw [List.length_map])) ?_
  refine XbE ?_
  refine Xf ?_
  refine X7 ?_
  refine Xfx ?_
  refine Lq (Q_ldEAAt 8 i 0 (vs := dlL d.C d.V) rfl rfl rfl rfl him (Nat.le_refl 2) (by rw [hgd]; rfl)) ?_
  refine Xd ?_
  refine L_o rfl rfl rfl (O_call [0,1,2,3] [4,5,6,7,8,9,10] hck rfl rfl ?_)
  rintro _ _ ⟨rfl, rfl⟩
  refine Xav ?_
  refine Xan ?_
  refine Xv ?_
  refine Xfx ?_
  refine Lq (Q_ldEAAt 8 i 0 (vs := dlL d.C d.V) rfl rfl rfl rfl him (Nat.le_refl 2) (by rw [hgd]; rfl)) ?_
  refine L_o rfl rfl rfl (O_alloc fun b20 => ?_)
  refine XB ?_
  refine J_seq ?_
  refine J.ent ((Ent.re [5,8,9,10,0,1,2,3,4,6,7,11] rfl).trans ((Ent.four_in).trans (Ent.re [1,2,3,4,5,6,7,0,8] rfl))) ?_
  refine Xe ?_
  refine Lq (Q_eql rfl rfl) ?_
  refine Ln ?_
  obtain ⟨QC, hQC⟩ : ∃ QC, QC = stars [stars ((ds.eraseIdx i).map dlA), stars (vrH pl pw pg), slc tDl true D (ds.map hdD), slc tN true CH (chZ ds.length)] := ⟨_, rfl⟩
  rw [← hQC]
  refine J.mono (Q := fun e ρ' L' => e = Exit.normal ∧ ∃ (C M CS MS : SV) (rows : List (SV × List Pw)), rows.map (·.2) = vRw polys i ∧ envSub [(0, .int .i64 4), (1, .int .i64 1), (2, .int .i64 ((m + 1 : Nat) : Int)), (3, D.v), (16, .pointer (some ⟨b32, 0, none⟩)), (19, .int .i64 ((i + 1 : Nat) : Int)), (20, .pointer (some ⟨b20, 0, none⟩)), (33, CH.v), (34, .int .i64 (ds.length : Int)), (35, .int .i64 (i : Int))] ρ' ∧ Ent L' [cel b32 (vlL (m + 1) C M pl pw pg SV.nil) 122, slc tPss true C [CS], slc tPs true CS (rows.map (·.1)), stars (rows.map rowP), slc tShs true M [MS], slc tSh true MS (vSh polys m i), slc tPs true d.C (d.c.map (·.1)), stars (d.c.map rowP), slc tNs true d.V (d.v.map (·.1)), stars (d.v.map rowN), cel b20 (dlL d.C d.V) 43, QC, F]) ?_ ?_
  ·refine J_condD rfl (fun hz => ?_) (fun hz => ?_)
   ·obtain rfl : i = 0 := by omega
    obtain ⟨rfl, rfl⟩ := hi0 rfl
    obtain rfl : rows = [] := List.eq_nil_of_length_eq_zero hrl
    refine DH [0,1] [0,1,2,3,4,6,7,8,10,11,13,14] (.quiet 0 (.quiet 1 (.quiet 2 (.quiet 3 (.quiet 4 (.quiet 6 (.quiet 7 (.quiet 8 (.both 5 (.quiet 10 (.quiet 11 (.both 9 (.loud 12 (.quiet 13 (.quiet 14 (.loud 15 .done)))) 12 (.loud 9 (.quiet 13 (.quiet 14 (.loud 15 .done))))))) 9 (.loud 5 (.quiet 10 (.quiet 11 (.loud 12 (.quiet 13 (.quiet 14 (.loud 15 .done)))))))))))))))) Tryz.mixed ?_
    refine Xb7 ?_
    refine XcK ?_
    refine Sq (Ent.re [0,1] rfl) rfl ((Q_lenAt 1 rfl rfl).as (v' := .int .i64 ((1 : Nat) : Int)) (by rw [List.length_map, hcl1]; rfl)) ?_
    refine XcK ?_
    refine Sq (Ent.re [0,1] rfl) rfl ((Q_lenAt 1 rfl rfl).as (v' := .int .i64 ((1 : Nat) : Int)) (by rw [List.length_map, hcl1]; rfl)) ?_
    refine S_both ?_ ?_
    ·refine S_o rfl rfl rfl rfl (O_mk (τ := tPss) 1 SV.nil rfl rfl rfl rfl rfl rfl (by decide) (by decide) (fun T1 => ⟨_, fun _ => ⟨Ent.reN [1,2] rfl, Ent.refl _⟩, ?_⟩))
     refine Xa ?_
     refine Xdj ?_
     refine S_both ?_ ?_
     ·refine S_o rfl rfl rfl rfl (O_mk (τ := tShs) 1 SV.nil rfl rfl rfl rfl rfl rfl (by decide) (by decide) (fun T2 => ⟨_, fun _ => ⟨Ent.reN [2,3] rfl, Ent.refl _⟩, ?_⟩))
      refine Xa ?_
      refine S_s rfl rfl rfl (O_st1 7 rfl rfl rfl rfl rfl ⟨_, fun _ => ⟨Ent.reN [2,3] rfl, Ent.refl _⟩, ?_⟩)
      refine Xa ?_
      refine XeR ?_
      refine XeH ?_
      rw [show vSh polys m 0 = [] from rfl]
      exact Xf9
     ·refine S_s rfl rfl rfl (O_st1 6 rfl rfl rfl rfl rfl ⟨_, fun _ => ⟨Ent.reN [1,2] rfl, Ent.refl _⟩, ?_⟩)
      refine Xa ?_
      refine S_o rfl rfl rfl rfl (O_mk (τ := tShs) 1 SV.nil rfl rfl rfl rfl rfl rfl (by decide) (by decide) (fun T2 => ⟨_, fun _ => ⟨Ent.reN [2,3] rfl, Ent.refl _⟩, ?_⟩))
      refine Xa ?_
      refine XeR ?_
      refine XeH ?_
      rw [show vSh polys m 0 = [] from rfl]
      exact Xf9
    ·refine S_o rfl rfl rfl rfl (O_mk (τ := tShs) 1 SV.nil rfl rfl rfl rfl rfl rfl (by decide) (by decide) (fun T2 => ⟨_, fun _ => ⟨Ent.reN [1,2] rfl, Ent.refl _⟩, ?_⟩))
     refine Xa ?_
     refine S_o rfl rfl rfl rfl (O_mk (τ := tPss) 1 SV.nil rfl rfl rfl rfl rfl rfl (by decide) (by decide) (fun T1 => ⟨_, fun _ => ⟨Ent.reN [2,3] rfl, Ent.refl _⟩, ?_⟩))
     refine Xa ?_
     refine Sq (Ent.re [2,3] rfl) rfl (Q_nilCheck rfl) ?_
     refine Sq (Ent.re [2,3] rfl) rfl (Q_fa0 rfl) ?_
     refine S_s rfl rfl rfl (O_st1 7 rfl rfl rfl rfl rfl ⟨_, fun _ => ⟨Ent.reN [2,3] rfl, Ent.refl _⟩, ?_⟩)
     refine Xa ?_
     refine XeR ?_
     refine XeH ?_
     rw [show vSh polys m 0 = [] from rfl]
     exact (Ent.mk fun _ _ h => (h.lay_nil tPs true : Sat _ _ (slc tPs true SV.nil [] :: _))).trans ((Ent.mk fun _ _ h => (h.lay_nil tSh true : Sat _ _ (slc tSh true SV.nil [] :: _))).trans (Ent.stars_nil.trans (Ent.re [10,3,2,0,4,1,6,7,8,9,5,12,13] rfl)))
   ·obtain ⟨j, rfl⟩ : ∃ j, i = j + 1 := ⟨i - 1, by omega⟩
    refine J_skip ?_
    exact ⟨rfl, C, M, CS, MS, rows, hr, ⟨rfl, rfl, rfl, rfl, rfl, rfl, rfl, rfl, rfl, rfl, trivial⟩, (Ent.re [6,5,1,2,3,4,0,7,8] rfl).trans (Ent.vp_out.trans (Ent.re [5,0,1,2,3,4,6,7,8,9,10,11,12] rfl))⟩
  clear hr hrl hi0
  rintro e ρ' L' ⟨rfl, C, M, CS, MS, rows, hr, hsub, hent⟩
  refine seqQ_cut hsub hent ?_
  have hrl : rows.length = i := by have := congrArg List.length hr; unfold vRw at this; simpa using this
  refine J_seq ?_
  refine J_seq ?_
  refine DH [0,1,6,10] [0,1,2,3,4,5,6,7,8] (.quiet 0 (.quiet 1 (.quiet 2 (.quiet 3 (.quiet 4 (.quiet 5 (.quiet 6 (.quiet 7 (.quiet 8 .done))))))))) Tryz.mixed ?_
  refine Sq (Ent.re [0,1,6,10] rfl) rfl (Q_fa0 rfl) ?_
  refine Sq (Ent.re [0,1,6,10] rfl) rfl (Q_ld 3 rfl rfl rfl rfl) ?_
  refine Sq (Ent.re [0,1,6,10] rfl) rfl ((Q_lenAt 2 rfl rfl).as (v' := .int .i64 1) (by rw [List.length_map, hcl1]; rfl)) ?_
  refine Sq (Ent.re [0,1,6,10] rfl) rfl (Q_move rfl) ?_
  refine Sq (Ent.re [0,1,6,10] rfl) rfl (Q_nilCheck rfl) ?_
  refine Sq (Ent.re [0,1,6,10] rfl) rfl (Q_fa0 rfl) ?_
  refine Sq (Ent.re [0,1,6,10] rfl) rfl (Q_ld 0 rfl rfl rfl rfl) ?_
  refine Sq (Ent.re [0,1,6,10] rfl) rfl (Q_lenAt 1 rfl rfl) ?_
  refine Sq (Ent.re [0,1,6,10] rfl) rfl ((Q_neq rfl rfl).as (v' := .bool false) rfl) ?_
  refine Xax ?_
  refine XS ?_
  refine Xg ?_
  refine Lq (Q_ldA 10 rfl rfl rfl) ?_
  refine L_o rfl rfl rfl (O_call [0,1,2,3,4,5,6,7,8,9] [10,11,12] (hlay C M CS MS rows (by omega)) rfl rfl ?_)
  rintro _ _ ⟨CS', MS', V', rfl, rfl⟩
  refine Xr ?_
  refine Xe ?_
  refine Xj ?_
  refine XaS ?_
  refine loopQ_normal (i + 1, C, M, CS', MS', rows ++ [(V', cmtL polys[i])]) ⟨by show i + 1 ≤ _; omega, by show (rows ++ [(V', cmtL polys[i])]).map (·.2) = _; rw [List.map_append, hr, vRw_succ, hpd]; rfl, fun h => by exact absurd h (Nat.succ_ne_zero i)⟩ (by show _ - (i + 1) < _ - i; omega) ⟨rfl, rfl, rfl, rfl, rfl, rfl, rfl, rfl, rfl, trivial⟩ ?_
  dsimp only
  rw [vSh_succ, hpd, hQC]
  exact (Ent.re [1,2,3,4,5,0,6,7,8,9,11,12] rfl).trans ((Ent.vp_in (i := i)).trans ((Ent.re [2,3,4,5,0,1,6,7] rfl).trans ((hdin _).trans ((Ent.re [3,0,1,2,4] rfl).trans (Ent.four_out.trans ((Ent.re [4,0,1,2,3,5,6,7] rfl).trans ((hback _).trans (Ent.re [5,4,1,2,0,3,6] rfl))))))))
 ·obtain rfl : i = ds.length := by omega
  obtain ⟨j, hj⟩ : ∃ j, ds.length = j + 1 := ⟨ds.length - 1, by omega⟩
  have hvp : ∀ sh L, Ent (stars (vpH C M CS MS rows sh ds.length) :: L) (slc tPss true C [CS] :: slc tPs true CS (rows.map (·.1)) :: stars (rows.map rowP) :: slc tShs true M [MS] :: slc tSh true MS sh :: L) := by rw [hj]; exact fun sh L => Ent.vp_out
  have hdg : ∀ r ∈ rows.map (·.2), r.length = 1 + 1 := fun r hr2 => by
   rw [hr] at hr2
   obtain ⟨k, hk, rfl⟩ := List.mem_map.1 hr2
   have hkp : k < polys.length := by rw [hds.len]; exact List.mem_range.1 hk
   rw [cmtL_len, getD_eq _ _ _ hkp]
   exact hds.deg _ (List.getElem_mem hkp)
  have hbg := vbegin_ok E b32 m C M pl pw pg SV.nil CS rows (by omega) (by omega) hdg
  rw [hr] at hbg
  refine Xae ?_
  refine J_seq ?_
  refine J.ent ((Ent.re [1,0,2,3,4,5,6] rfl).trans (hvp _ _)) ?_
  refine Xe ?_
  refine L_o rfl rfl rfl (O_call [5,0,1,2] [3,4,6,7,8,9,10] hbg rfl rfl ?_)
  rintro _ _ ⟨G', pga, g, rfl, hgn, rfl⟩
  refine Xbn ?_
  refine Xbz ?_
  refine retQ_ret _ [vltA b32 m ⟨vSh polys m ds.length, [], [], 0, 0, -1, g⟩, _, _, _] (.cons (RV_tmp rfl) (.cons (RV_tmp rfl) .nil)) ⟨b32, g, rfl, hgn, rfl⟩ ?_
  exact (Ent.re [5,0,1,2,3,4,6,7,8,9] rfl).trans (Ent.four_out.trans ((Ent.re [4,7,8,0,1,2,3,5,6,9,10,11,12] rfl).trans (Ent.vltIn b32 m ⟨vSh polys m ds.length, [], [], 0, 0, -1, g⟩ ⟨C, M, MS, SV.nil, G', pl, pw, pg, pga⟩)))
end
end Go.Proofs
/- A vault: its clock, its shares, commands. -/
set_option autoImplicit false
namespace Go.Proofs
open Go.SL
attribute [local irreducible] J JL QOp JOp seqQ blockQ loopQ retQ slc cel hex star pur stars Does RV Ent pAt scopeQ JR seqR endR JLI DoesY
attribute [local irreducible] gaA walA gateA
section
variable (E : World)
theorem vmay_ok (p m : Nat) (C M : SV) (pl pw pg : Nat) (G MS S : SV) (k : List UInt8) : Does Tryz.prog E 67 [.pointer (some ⟨p, 0, none⟩), .int .i64 0] [cel p (vlL (m + 1) C M pl pw pg G) 122, slc tShs true M [MS], cel pl (lgL k S) 172, gateA pg 12 12] fun v L => v = .nilIface ∧ L = [cel p (vlL (m + 1) C M pl pw pg G) 122, slc tShs true M [MS], cel pl (lgL k S) 172, gateA pg 12 12] := by
 have hp := lpruned_ok E pl k S
 have ho := ropen_ok E pg
 refine Does.of Tryz.func67 rfl Tryz.ntmps67 rfl rfl fun F => ?_
 refine Xb ?_
 refine Xi ?_
 refine X5 ?_
 refine Xg ?_
 refine Lq (Q_peql rfl rfl) ?_
 refine Xf ?_
 refine Xat ?_
 refine Xp ?_
 refine X7 ?_
 refine Xaj ?_
 refine Lq ((Q_lenAt 1 rfl rfl).as (v' := .int .i64 1) rfl) ?_
 refine Xcz ?_
 refine Xp ?_
 refine XF ?_
 refine Xv ?_
 refine Xaj ?_
 refine L_o rfl rfl rfl (O_call [2] [0,1,3,4] hp rfl rfl ?_)
 rintro _ _ ⟨rfl, rfl⟩
 refine Xc ?_
 refine Lq ((Q_leq rfl rfl).as (v' := .bool false) rfl) ?_
 refine XF ?_
 refine Xg ?_
 refine XL ?_
 refine XE ?_
 refine Xd ?_
 refine L_o rfl rfl rfl (O_call [3] [0,1,2,4] ho rfl rfl ?_)
 rintro _ _ ⟨rfl, rfl⟩
 refine Xav ?_
 refine XF ?_
 refine Xbe ?_
 refine Xaf ?_
 exact retQ_ret _ [_, _, _, _] (.cons (RV_tmp rfl) .nil) ⟨rfl, rfl⟩ (Ent.re [2,3,1,0,4] rfl)
theorem eis_ok (v : Value) : Does Tryz.prog E 68 [.nilIface, .iface 131 v] [] fun r L => r = .bool false ∧ L = [] := by
 refine Does.of Tryz.func68 rfl Tryz.ntmps68 rfl rfl fun F => ?_
 refine XbB ?_
 refine Lq (Q_ieqN rfl) ?_
 refine Xb0 ?_
 refine XaP ?_
 refine Xv ?_
 refine Lq (Q_ieqS rfl rfl) ?_
 refine Xap ?_
 exact XdE
variable (p m : Nat) (s : Vs)
theorem vtick_ok (hb : s.b ≤ 12) : Does Tryz.prog E 20 [.pointer (some ⟨p, 0, none⟩), .int .i64 12] [vltA p m s] fun v L => v = .tuple #[] ∧ L = [vltA p m { s with a := 12, b := 12 }] := by
 refine Does.of Tryz.func20 rfl Tryz.ntmps20 rfl rfl fun F => ?_
 refine J.norm ?_
 refine J.open (fun _ hs => Sat.vltOut hs) fun x => ?_
 have ht := rtick_ok E x.pg s.a s.b hb
 refine Xg ?_
 refine Lq (Q_pneq rfl rfl) ?_
 refine Xm ?_
 refine Xe ?_
 refine X9 ?_
 refine L_o rfl rfl rfl (O_call [6] [0,1,2,3,4,5,7,8,9] ht rfl rfl ?_)
 rintro _ _ ⟨rfl, rfl⟩
 refine X6 ?_
 exact retQ_normal [] [_] .nil ⟨rfl, rfl⟩ ((Ent.re [1,2,3,4,5,6,0,7,8,9] rfl).trans (Ent.vltIn p m { s with a := 12, b := 12 } x))
theorem vemit_ok (ha : s.a = 12) (hb : s.b = 12) (hl : s.sh.length ≤ 1000) : Does Tryz.prog E 21 [.pointer (some ⟨p, 0, none⟩), .int .i64 0] [vltA p m s] fun v L => ∃ T : SV, v = .tuple #[T.v, .int .i64 0] ∧ L = [vltA p m s, slc tSh true T s.sh] := by
 obtain ⟨sh, k, fl, n, a, b, g⟩ := s
 dsimp only at ha hb hl
 subst ha hb
 refine Does.of Tryz.func21 rfl Tryz.ntmps21 rfl rfl fun F => ?_
 refine J.norm ?_
 refine J.open (fun _ hs => Sat.vltOut hs) fun x => ?_
 have hm := vmay_ok E p m x.C x.M x.pl x.pw x.pg x.G x.MS x.S k
 have he := eis_ok E (.agg #[.int .i64 0])
 have hc := shclone E (slc tSh true x.MS sh) x.MS sh (fun w L h => h.rd 0 rfl) (by omega)
 dsimp only
 refine Sr ?_
 refine Xs ?_
 refine Xad ?_
 refine L_o rfl rfl rfl (O_call [0,1,3,6] [2,4,5,7,8,9] hm rfl rfl ?_)
 rintro _ _ ⟨rfl, rfl⟩
 refine Xc ?_
 refine Xx ?_
 refine Xk ?_
 refine Lq (Q_makeInterface rfl rfl) ?_
 refine L_o rfl rfl rfl (O_callP (he) rfl ?_)
 refine Xag ?_
 refine X9 ?_
 refine Lq (Q_ixAt 1 0 rfl rfl rfl rfl Nat.zero_lt_one rfl) ?_
 refine Lq (Q_ldEAt 1 0 0 (v := x.MS.v) rfl rfl rfl rfl Nat.zero_lt_one (by decide) rfl) ?_
 refine L_o rfl rfl rfl (O_call [4] [0,1,2,3,5,6,7,8,9] hc rfl rfl ?_)
 rintro _ _ ⟨T, rfl, rfl⟩
 refine Xc ?_
 refine Xbz ?_
 exact retQ_ret _ [_, _] (.cons (RV_tmp rfl) (.cons (RV_tmp rfl) .nil)) ⟨T, rfl, rfl⟩ ((Ent.re [2,3,0,4,6,7,5,8,9,1,10] rfl).trans (Ent.vltIn p m ⟨sh, k, fl, n, 12, 12, g⟩ x))
theorem vtake_ok (ha : s.a = 12) (hb : s.b = 12) (i : Nat) (hi : i < s.g.k.length) (hic : i < s.g.c.length) (hkl : s.g.k.length ≤ 1000) (hnil : (s.g.k[i]).2 = [] → (s.g.k[i]).1 = SV.nil) (a : Nat) (v : W4) (hlt : (s.g.k[i]).2.length ≤ s.g.t) (ht : s.g.t ≤ 100) (hno : ∀ q ∈ (s.g.k[i]).2, q.1 ≠ a)
 (hver : ∀ S, Does Tryz.prog E 49 [S.v, shV a v] [slc tPw true S (s.g.c[i]).2] fun r L => r = .bool true ∧ L = [slc tPw true S (s.g.c[i]).2]) :
 Does Tryz.prog E 22 [.pointer (some ⟨p, 0, none⟩), .int .i64 0, .int .i64 (i : Int), shV a v] [vltA p m s] fun r L => ∃ S' : SV, r = .bool true ∧ L = [vltA p m { s with g := putG s.g i S' (a, v) }] := by
 obtain ⟨sh, k, fl, n, a', b', g⟩ := s
 dsimp only at ha hb hi hic hkl hnil hlt ht hno hver
 subst ha hb
 refine Does.of Tryz.func22 rfl Tryz.ntmps22 rfl rfl fun F => ?_
 refine J.norm ?_
 refine J.open (fun _ hs => Sat.vltOut (L := [_]) hs) fun x => ?_
 have hm := vmay_ok E p m x.C x.M x.pl x.pw x.pg x.G x.MS x.S k
 have hp := gput_ok E x.pga g i hi hic hkl hnil a v hlt ht hno hver
 dsimp only
 refine Sr ?_
 refine L_o rfl rfl rfl (O_box rfl fun b7 => ?_)
 refine XT ?_
 refine L_o rfl rfl rfl (O_call [1,2,4,7] [0,3,5,6,8,9,10] hm rfl rfl ?_)
 rintro _ _ ⟨rfl, rfl⟩
 refine Xbf ?_
 refine Lq (Q_ineN rfl) ?_
 refine Xcf ?_
 refine XbU ?_
 refine DH [0,4,8] [0,1,2,3,4,5,6,7,8,10] (.quiet 0 (.quiet 1 (.quiet 2 (.quiet 3 (.quiet 4 (.quiet 5 (.quiet 6 (.quiet 7 (.quiet 8 (.loud 9 (.quiet 10 .done))))))))))) Tryz.mixed ?_
 refine Sq (Ent.re [0,4,8] rfl) rfl (Q_move rfl) ?_
 refine Sq (Ent.re [0,4,8] rfl) rfl (Q_nilCheck rfl) ?_
 refine Sq (Ent.re [0,4,8] rfl) rfl (Q_fa0 rfl) ?_
 refine Sq (Ent.re [0,4,8] rfl) rfl (Q_ld 0 rfl rfl rfl rfl) ?_
 refine Sq (Ent.re [0,4,8] rfl) rfl (Q_move rfl) ?_
 refine Sq (Ent.re [0,4,8] rfl) rfl (Q_ixAt 2 0 rfl rfl rfl rfl Nat.zero_lt_one rfl) ?_
 refine Sq (Ent.re [0,4,8] rfl) rfl (Q_ldEAt 2 0 0 (v := .pointer (some ⟨x.pga, 0, none⟩)) rfl rfl rfl rfl Nat.zero_lt_one (by decide) rfl) ?_
 refine Sq (Ent.re [0,4,8] rfl) rfl (Q_move rfl) ?_
 refine Sq (Ent.re [0,4,8] rfl) rfl (Q_ldA 1 rfl rfl rfl) ?_
 refine S_o rfl rfl rfl rfl (O_call [9] [0,1,2,3,4,5,6,7,8,10] hp rfl rfl ?_)
 (rintro _ _ ⟨S', rfl, rfl⟩; refine ⟨_, fun _ => ⟨Ent.reN [1,5,9] rfl, Ent.refl _⟩, ?_⟩)
 refine Xa ?_
 refine Sq (Ent.re [1,5,9] rfl) rfl (Q_assign rfl) ?_
 refine Xu ?_
 refine J_ret ?_
 exact retQ_ret _ [_] (.cons (RV_tmp rfl) .nil) ⟨S', rfl, rfl⟩ ((Ent.re [1,2,6,3,7,8,4,9,0,10] rfl).trans (Ent.vltIn p m ⟨sh, k, fl, n, 12, 12, putG g i S' (a, v)⟩ x))
theorem vdoK_ok (hk : s.k = []) (P : Ec.Af Nt.pP) (hP : P.y * P.y = sideF P.x) (hfl : s.fl.length ≤ 100) (hn : s.n ≤ 1000) : Does Tryz.prog E 19 [.pointer (some ⟨p, 0, none⟩), cmV 1 0 [] (encP P)] [vltA p m s] fun v L => v = .int .i64 0 ∧ L = [vltA p m { s with k := encP P, n := s.n + 59 }] := by
 obtain ⟨sh, k, fl, n, a, b, g⟩ := s
 dsimp only at hk hfl hn
 subst hk
 have hcl := cmB_len 1 [] (encP P)
 rw [encP_len] at hcl
 have hco := wcommand_ok E 1 [] (encP P) ⟨.inl ⟨rfl, rfl, encP_len P⟩⟩
 have hap := fun pw => wappend_ok E pw n (cmB 1 [] (encP P)) (by rw [hcl]; decide) (by rw [hcl]; show n + 51 + 8 ≤ 65536; omega)
 rw [hcl] at hap
 have hdo := fun q T => ldoK_ok E q T P hP
 generalize cmB 1 [] (encP P) = cb at *
 generalize hb : encP P = bP at *
 refine Does.of Tryz.func19 rfl Tryz.ntmps19 rfl rfl fun F => ?_
 refine J.norm ?_
 refine J.open (fun _ hs => Sat.vltOut hs) fun x => ?_
 have hcn := lclone_ok E x.pl [] x.S fl (by omega)
 dsimp only
 refine Sr ?_
 refine L_o rfl rfl rfl (O_box rfl fun b3 => ?_)
 refine XbI ?_
 refine Xag ?_
 refine XL ?_
 refine XE ?_
 refine L_o rfl rfl rfl (O_call [4,5] [0,1,2,3,6,7,8,9,10] hcn rfl rfl ?_)
 rintro _ _ ⟨q, T, rfl, rfl⟩
 refine Xbf ?_
 refine XaU ?_
 refine L_o rfl rfl rfl (O_call [2] [0,1,3,4,5,6,7,8,9,10,11,12] (hdo q T) rfl rfl ?_)
 rintro _ _ ⟨rfl, rfl⟩
 refine XaJ ?_
 refine J.ent (Ent.re [0,3,4,5,6,7,8,9,10,11,12] rfl) ?_
 refine Xe ?_
 refine XaQ ?_
 refine XZ ?_
 refine L_o rfl rfl rfl (O_callP (hco) rfl ?_)
 refine XK ?_
 refine Xbm ?_
 refine XL ?_
 refine Lq (Q_ld 3 rfl rfl rfl rfl) ?_
 refine Xd ?_
 refine L_o rfl rfl rfl (O_call [6] [0,1,2,3,4,5,7,8,9,10] (hap x.pw) rfl rfl ?_)
 rintro _ _ ⟨rfl, rfl⟩
 refine Xc ?_
 refine XaQ ?_
 refine Xv ?_
 refine XL ?_
 refine L_s rfl rfl (O_st1 4 rfl rfl rfl rfl rfl ?_)
 refine Xr ?_
 refine Xaf ?_
 exact retQ_ret _ [_] (.cons (RV_tmp rfl) .nil) ⟨rfl, rfl⟩ ((Ent.re [4,5,6,1,2,0,7,8,9,10] rfl).trans (Ent.vltIn p m ⟨sh, bP, fl, n + 59, a, b, g⟩ ⟨x.C, x.M, x.MS, T, x.G, q, x.pw, x.pg, x.pga⟩))
theorem vdoP_ok (hk : s.k ≠ []) (hfl : s.fl = []) (f : Fl) (he : f.e = 0) (h1 : 1 ≤ f.name.length) (h2 : f.name.length ≤ 16) (h3 : f.body.length ≤ 2000) (hn : s.n ≤ 1000) : Does Tryz.prog E 19 [.pointer (some ⟨p, 0, none⟩), cmV 2 0 f.name f.body] [vltA p m s] fun v L => ∃ n', v = .int .i64 0 ∧ L = [vltA p m { s with fl := [f], n := n' }] := by
 obtain ⟨sh, k, fl, n, a, b, g⟩ := s
 dsimp only at hk hfl hn
 subst hfl
 have hcl := cmB_len 2 f.name f.body
 have hco := wcommand_ok E 2 f.name f.body ⟨.inr ⟨rfl, h1, h2, by omega⟩⟩
 have hap := fun pw => wappend_ok E pw n (cmB 2 f.name f.body) (by omega) (by omega)
 have hdo := fun q T => ldoP_ok E q k T f he hk h1 h2 (by omega)
 generalize cmB 2 f.name f.body = cb at *
 refine Does.of Tryz.func19 rfl Tryz.ntmps19 rfl rfl fun F => ?_
 refine J.norm ?_
 refine J.open (fun _ hs => Sat.vltOut hs) fun x => ?_
 have hcn := lclone_ok E x.pl k x.S [] (Nat.zero_le _)
 dsimp only
 refine Sr ?_
 refine L_o rfl rfl rfl (O_box rfl fun b3 => ?_)
 refine XbI ?_
 refine Xag ?_
 refine XL ?_
 refine XE ?_
 refine L_o rfl rfl rfl (O_call [4,5] [0,1,2,3,6,7,8,9,10] hcn rfl rfl ?_)
 rintro _ _ ⟨q, T, rfl, rfl⟩
 refine Xbf ?_
 refine XaU ?_
 refine L_o rfl rfl rfl (O_call [2,3] [0,1,4,5,6,7,8,9,10,11,12] (hdo q T) rfl rfl ?_)
 rintro _ _ ⟨T2, rfl, rfl⟩
 refine XaJ ?_
 refine J.ent (Ent.re [0,1,4,5,6,7,8,9,10,11,12] rfl) ?_
 refine Xe ?_
 refine XaQ ?_
 refine XZ ?_
 refine L_o rfl rfl rfl (O_callP (hco) rfl ?_)
 refine XK ?_
 refine Xbm ?_
 refine XL ?_
 refine Lq (Q_ld 3 rfl rfl rfl rfl) ?_
 refine Xd ?_
 refine L_o rfl rfl rfl (O_call [6] [0,1,2,3,4,5,7,8,9,10] (hap x.pw) rfl rfl ?_)
 rintro _ _ ⟨rfl, rfl⟩
 refine Xc ?_
 refine XaQ ?_
 refine Xv ?_
 refine XL ?_
 refine L_s rfl rfl (O_st1 4 rfl rfl rfl rfl rfl ?_)
 refine Xr ?_
 refine Xaf ?_
 exact retQ_ret _ [_] (.cons (RV_tmp rfl) .nil) ⟨_, rfl, rfl⟩ ((Ent.re [4,5,6,1,2,0,7,8,9,10] rfl).trans (Ent.vltIn p m ⟨sh, k, [f], n + cb.length + 8, a, b, g⟩ ⟨x.C, x.M, x.MS, T2, x.G, q, x.pw, x.pg, x.pga⟩))
end
end Go.Proofs
/- A row of bytes read out as a text and given up; pointers turned and back. -/
set_option autoImplicit false
namespace Go.SL
theorem lies_off {P : Program} {e : TypeId} (hc : P.cellsOf e = 1) (count o n : Nat) (hn : o + n ≤ count) : liesAt P P.depth e count o e n = true := by
 have hd : P.depth = (2 * (P.types.size + Made.depth) + 1) + 1 := rfl
 rw [hd]
 simp only [liesAt, Bool.or_eq_true]
 left
 rw [hd]
 simp [rowAt, hc, hn, sameLayout, Nat.mod_one]
section
variable {P : Program} (w : World)
theorem run_uString (pt it ty e : TypeId) (hp : P.underlying pt = some (.pointer e)) (hc : P.cellsOf e = 1) (g o cells : Nat) (hsh : w.shape? g = some (e, cells)) (l : List UInt8) (h0 : l ≠ []) (hn : o + l.length ≤ cells) (h63 : l.length ≤ 9223372036854775807)
 (hcell : ∀ j x, l[j]? = some x → w.cell? ((⟨g, o, none⟩ : Addr).add j) = some (.int .u8 x.toNat)) :
 (Builtin.unsafeString_ #[pt, it] ty #[.pointer (some ⟨g, o, none⟩), .int .i64 l.length]).run P w = .ok (.string ⟨l.toArray⟩) (w.freeze ⟨g, o, none⟩ l.length) := by
 have hl : l.length ≠ 0 := by simpa using h0
 have hlb := Lib.run_loadBytes (P := P) w l ⟨g, o, none⟩ .empty hcell
 have hlies := lies_off (P := P) hc (cells / P.cellsOf e) o l.length (by rw [hc]; simpa using hn)
 have h63' : ¬ (9223372036854775807 : Int) < (l.length : Int) := by omega
 obtain ⟨msg, hdef⟩ : ∃ msg, Builtin.unsafeString_ #[pt, it] ty #[.pointer (some ⟨g, o, none⟩), .int .i64 l.length] =
  (do
   let n ← asInt (.int .i64 l.length)
   if n < 0 then runtimePanic (.error msg)
   if n > IntKind.i64.max then unsupported (.unsafePointer "String: a length above the largest int")
   if n = 0 then pure (.string .empty)
   else if ← variablesAt ⟨g, o, none⟩ (← elemOf pt) n.toNat then do
    let s ← loadBytes ⟨g, o, none⟩ .empty n.toNat
    freeze ⟨g, o, none⟩ n.toNat
    pure (.string s)
   else unsupported (.unsafePointer "String: not so many bytes at ptr")) := ⟨_, rfl⟩
 rw [hdef]
 have hmax : IntKind.i64.max = 9223372036854775807 := rfl
 have hneg : ¬ (l.length : Int) < 0 := by omega
 simp [asInt, asIntOf, hmax, h63', hneg, hl, variablesAt, hsh, elemOf, run_underlying hp, hlies, hlb]
end
section
variable {β : Ty UInt8} {P : Program} {E : World} {n : Nat} {ρ : Env} {L : List HProp} {dst : Option Tmp} {ty : TypeId} {pos : String} {after : Array Edge} {g : Option (Nat × Bool)}
/-- Where it is. -/
theorem Sat.slc_some {w : World} (h : Sat E w L) (i : Nat) {S : SV} {l : List UInt8} (hi : L[i]? = some (slc β true S l)) (hl : l ≠ []) : S.c ≠ 0 ∧ ∃ a, S.a = some a := by
 obtain ⟨p, ⟨h1, h2, h3⟩, _⟩ := h.at hi
 have : l.length ≠ 0 := by simpa using hl
 rcases h3 with ⟨_, hc⟩ | ⟨_, _, hf, _⟩ | ⟨g, o, ha, _⟩
 ·omega
 ·cases hf
 ·exact ⟨by omega, _, ha⟩
theorem Q_usData {t : Nat} {x : Operand} {S : SV} (hx : ρ.ev x = some S.v) (hc : S.c ≠ 0) (ha : ∃ a, S.a = some a) : QOp P E n ⟨dst, .call ⟨.builtin .unsafeSliceData, #[x], #[t]⟩, ty, pos, after, g⟩ ρ L (.pointer S.a) := fun a w h hs => by
 obtain ⟨b, hb⟩ := ha
 refine run_builtin (args := [x]) (vs := [S.v]) a w h (by simp [Env.evs, hx]) (fun cs => ?_)
 have := Lib.run_unsafeSliceData_row (P := P) w #[t] ty b S.n S.c hc
 rw [SV.v, hb]
 simp only [builtin]
 simp only [Sem.run_bind, this, Result.andThen_ok, Sem.run_pure]
theorem O_uString (hβ : ∀ b, β.enc b = [.int .u8 (b.toNat : Int)]) (i : Nat) {K : Value → List HProp → Prop} {t t' : Nat} {x y : Operand} {S : SV} {l : List UInt8} {j : Int} [u : TyU P t (.pointer β.e)] (hcl : P.cellsOf β.e = 1) (hβs : β.sz = 1) (hi : L[i]? = some (slc β true S l)) (hl : l ≠ []) (hx : ρ.ev x = some (.pointer S.a)) (hy : ρ.ev y = some (.int .i64 j)) (hj : j = (l.length : Int))
 (hK : K (str l) (L.set i emp)) : JOp P E n ⟨dst, .call ⟨.builtin .unsafeString, #[x, y], #[t, t']⟩, ty, pos, after, g⟩ K ρ L := fun a w ha hs next Q hn => by
 subst hj
 obtain ⟨p, ⟨h1, h2, h3⟩, hw⟩ := hs.at hi
 have hl0 : l.length ≠ 0 := by simpa using hl
 rcases h3 with ⟨_, hc⟩ | ⟨_, _, hf, _⟩ | ⟨b, o, hS, _, cs, fr, hp, hfr, hlen, hcs, hmx⟩
 ·omega
 ·cases hf
 have hb := (hw b _ hp).2
 have hflat : β.flat l = l.map (fun b : UInt8 => Value.int .u8 (b.toNat : Int)) := by
  clear hn hK hi hs hy hcs h1 h2 hl hl0
  induction l with
  | nil => rfl
  | cons b m ih => rw [β.flat_cons, ih, hβ]; rfl
 have hsh : w.shape? b = some (β.e, cs.length) := by simp [World.shape?, hb]
 have hcell : ∀ j x, l[j]? = some x → w.cell? ((⟨b, o, none⟩ : Addr).add j) = some (.int .u8 x.toNat) := fun j x hj => by
  rw [addr_add]
  have e1 : (β.flat l)[j]? = some (.int .u8 (x.toNat : Int)) := by rw [hflat, List.getElem?_map, hj]; rfl
  rw [← hcs, List.getElem?_take] at e1
  split at e1
  ·rw [List.getElem?_drop] at e1
   simpa [World.cell?, hb] using e1
  ·cases e1
 have hrun := run_uString (P := P) w t t' ty β.e u.h hcl b o cs.length hsh l hl (by rw [hβs] at hlen; omega) (by omega) hcell
 have ht : Turned w (w.freeze ⟨b, o, none⟩ l.length) b (.cells cs.toArray β.e (if fr.1 == fr.2 then (o, o + l.length) else (min fr.1 o, max fr.2 (o + l.length)))) := by
  unfold World.freeze
  rw [if_neg hl0]
  exact ⟨rfl, rfl, rfl, by simp, fun k hk hlt => by simp only [Array.getElem?_modify]; rw [if_neg (fun e => hk e.symm)], by
   simp only [Array.getElem?_modify, hb]; rfl⟩
 have hs' : Sat E (w.freeze ⟨b, o, none⟩ l.length) (L.set i emp) := by
  refine hs.turn_at hi (fun p' ⟨_, _, hp2⟩ _ => ⟨?_, trivial⟩) ht
  rcases hp2 with ⟨hno, _⟩ | ⟨_, _, hf0, _⟩ | ⟨b2, o2, hS2, _, cs2, fr2, hb2, _⟩
  ·rw [hno] at hS; cases hS
  ·cases hf0
  ·rw [hS2] at hS; simp only [Option.some.injEq, Addr.mk.injEq] at hS; obtain ⟨rfl, _⟩ := hS; exact ⟨_, hb2⟩
 rw [hS] at hx
 unfold Oper.wp
 simp only [execOp, resolve]
 have e1 : (Array.map a.eval #[x, y]) = #[.pointer (some ⟨b, o, none⟩), .int .i64 (l.length : Int)] := by simp [ha.ev hx, ha.ev hy]
 simp only [run_bind_pure, invoke, e1, builtin]
 simp only [Sem.run_bind, hrun, Result.andThen_ok, Sem.run_pure]
 exact hn _ _ _ hK hs'
end
end Go.SL
