/- Part 30 of the texts below the row: Dkg3, Sl24, Sl43, Sl44, Sl45, Sl46. -/
import Derived.ChangeKeysEq
import Derived.Recover
import Derived.Test.YtdggicfcpcjjlaaGreatDoorM1
import Derived.Test.YtdggicfcpcjjlaaGreatDoorM9
import Derived.Test.YtdggicfcpcjjlaaGreatDoorM12
import Derived.Test.YtdggicfcpcjjlaaGreatDoorM13
import Derived.Test.YtdggicfcpcjjlaaGreatDoorM29
/- Deals: checked by a node. -/
set_option autoImplicit false
namespace Go.Proofs
open Go.SL
theorem DlOf.clen {d : Dl} {n : Nat} {l : List (List W4)} (h : DlOf d n l) : d.c.length = l.length := by have := congrArg List.length h.c; simpa using this
theorem DlOf.vlen {d : Dl} {n : Nat} {l : List (List W4)} (h : DlOf d n l) : d.v.length = n := by have := congrArg List.length h.v; simpa using this
theorem DlOf.cget {d : Dl} {n : Nat} {l : List (List W4)} (h : DlOf d n l) (i : Nat) (hi : i < d.c.length) (hl : i < l.length) : (d.c[i]).2 = cmtL l[i] := by
 have e : (d.c.map (·.2))[i]'(by simpa using hi) = cmtL l[i] := by simp only [h.c]; simp
 rwa [List.getElem_map] at e
theorem DlOf.vget {d : Dl} {n : Nat} {l : List (List W4)} (h : DlOf d n l) (i : Nat) (hi : i < d.v.length) : (d.v[i]).2 = l.map fun c => valW c (i + 1) := by
 have e : (d.v.map (·.2))[i]'(by simpa using hi) = l.map fun c => valW c (i + 1) := by simp only [h.v]; simp
 rwa [List.getElem_map] at e
theorem cmtL_len (c : List W4) : (cmtL c).length = c.length := by unfold cmtL; simp
theorem cmtL_ok (c : List W4) : ∀ p ∈ cmtL c, p.ok := fun p hp => by
 obtain ⟨k, _, rfl⟩ := List.mem_map.1 hp
 exact pw_ok _
theorem quo_ne {n : Int} {t : Nat} (h : quoB n t = true) : quo n t ≠ 0 := by
 have := quo_pos n t
 rw [h] at this
 have := of_decide_eq_true this
 omega
theorem quoB_le {n : Int} {t : Nat} (h : quoB n t = true) : 3 * (t : Int) + 1 ≤ n ∧ n ≤ 7 := by
 unfold quoB at h
 simpa only [Bool.and_eq_true, decide_eq_true_eq] using h
attribute [local irreducible] J JL QOp JOp seqQ blockQ loopQ retQ slc cel hex star pur stars Does RV Ent pAt scopeQ JR seqR endR JLI DoesY
section
variable (E : World) (n t m : Nat) (hq : quoB n t = true) (ht : t ≤ 2) (hm : m < n) (d : Dl) (l : List (List W4)) (hd : DlOf d n l) (h1 : 1 ≤ l.length) (h4 : l.length ≤ 4) (hc : ∀ c ∈ l, c.length = t + 1)
include hq ht hm hd h1 h4 hc
theorem shaped_ok : Does Tryz.prog E 105 [.int .i64 (n : Int), .int .i64 (t : Int), dlV d.C d.V, .int .i64 ((m + 1 : Nat) : Int)] [slc tPs true d.C (d.c.map (·.1)), stars (d.c.map rowP), slc tNs true d.V (d.v.map (·.1)), stars (d.v.map rowN)] fun v L => v = .bool true ∧ L = [slc tPs true d.C (d.c.map (·.1)), stars (d.c.map rowP), slc tNs true d.V (d.v.map (·.1)), stars (d.v.map rowN)] := by
 have hn7 := quoB_le hq
 have hqu := quorum_ok E n (by omega) t ht
 have hqn := quo_ne hq
 have hcl := hd.clen
 have hvl := hd.vlen
 have hmv : m < d.v.length := by omega
 have hg1 : (d.v.map (·.1))[m]'(by rw [List.length_map]; exact hmv) = (d.v[m]).1 := List.getElem_map ..
 have hv2 := congrArg List.length (hd.vget m hmv)
 rw [List.length_map] at hv2
 refine Does.of Tryz.func105 rfl Tryz.ntmps105 rfl rfl fun F => ?_
 refine Xb ?_
 refine L_o rfl rfl rfl (O_box rfl fun b6 => ?_)
 refine XC ?_
 refine XaF ?_
 refine Lq ((Q_lenAt 1 rfl rfl).as (v' := .int .i64 (l.length : Int)) (by rw [List.length_map, hcl])) ?_
 refine Xn ?_
 refine Xv ?_
 refine L_o rfl rfl rfl (O_callP (hqu) rfl ?_)
 refine XcB ?_
 refine Xf ?_
 refine XcV ?_
 refine Xp ?_
 refine X7 ?_
 refine XbE ?_
 refine Xf ?_
 refine XcV ?_
 refine Xp ?_
 refine Xf ?_
 refine XbE ?_
 refine Xbx ?_
 refine Lq ((Q_lenAt 3 rfl rfl).as (v' := .int .i64 (n : Int)) (by rw [List.length_map, hvl])) ?_
 refine Xd ?_
 refine XcC ?_
 refine Xp ?_
 refine Xbx ?_
 refine XeA ?_
 refine Lq (Q_ixAt 3 m rfl rfl rfl rfl (by rw [List.length_map]; exact hmv) rfl) ?_
 refine Lq (Q_ldEAt 3 m 0 (v := (d.v[m]).1.v) rfl rfl rfl rfl (by rw [List.length_map]; exact hmv) (by decide) (by rw [hg1]; rfl)) ?_
 refine Lq ((Q_len (τ := tNm) (fun w h => h.rdR 4 rfl m hmv) rfl).as (v' := .int .i64 (l.length : Int)) (by rw [hv2])) ?_
 refine Xd ?_
 refine XcC ?_
 refine XbU ?_
 refine XaT ?_
 refine Lq ((Q_lenAt 1 rfl rfl).as (v' := .int .i64 (l.length : Int)) (by rw [List.length_map, hcl])) ?_
 refine XJ ?_
 refine J_loop (fun i : Nat => i ≤ l.length) (fun i => [(1, .int .i64 (t : Int)), (55, d.C.v), (56, .int .i64 (l.length : Int)), (57, .int .i64 (i : Int))]) (fun _ => [slc tPs true d.C (d.c.map (·.1)), stars (d.c.map rowP), slc tNs true d.V (d.v.map (·.1)), stars (d.v.map rowN), F]) (fun i => l.length - i) 0 (Nat.zero_le _) ⟨rfl, rfl, rfl, rfl, trivial⟩ (Ent.re [1,2,3,4,5] rfl) ?_
 intro i hi
 by_cases h : i < l.length
 ·have hic : i < d.c.length := by omega
  have hgc : (d.c.map (·.1))[i]'(by rw [List.length_map]; exact hic) = (d.c[i]).1 := List.getElem_map ..
  have hc2 := congrArg List.length (hd.cget i hic h)
  rw [cmtL_len, hc _ (List.getElem_mem h)] at hc2
  refine Xaz ?_
  refine Lq (Q_ixAt 0 i rfl rfl rfl rfl (by rw [List.length_map]; exact hic) rfl) ?_
  refine Lq (Q_ldEAt 0 i 0 (v := (d.c[i]).1.v) rfl rfl rfl rfl (by rw [List.length_map]; exact hic) (by decide) (by rw [hgc]; rfl)) ?_
  refine Xx ?_
  refine Lq ((Q_len (τ := tPw) (fun w h => h.rdR 1 rfl i hic) rfl).as (v' := .int .i64 ((t + 1 : Nat) : Int)) (by rw [hc2])) ?_
  refine Xd ?_
  refine XaM ?_
  refine XcC ?_
  refine XaI ?_
  refine X8 ?_
  exact Xc9
 ·refine Xae ?_
  refine Xaf ?_
  exact retQ_ret _ [_, _, _, _] (.cons (RV_tmp rfl) .nil) ⟨rfl, rfl⟩ (Ent.refl _)
theorem dcheck_ok (hq2 : ∀ c ∈ l, ∀ k ∈ c, k.ok ∧ k.n < Nt.pQ) : Does Tryz.prog E 58 [.int .i64 (n : Int), .int .i64 (t : Int), dlV d.C d.V, .int .i64 ((m + 1 : Nat) : Int)] [slc tPs true d.C (d.c.map (·.1)), stars (d.c.map rowP), slc tNs true d.V (d.v.map (·.1)), stars (d.v.map rowN)] fun v L => v = .bool true ∧ L = [slc tPs true d.C (d.c.map (·.1)), stars (d.c.map rowP), slc tNs true d.V (d.v.map (·.1)), stars (d.v.map rowN)] := by
 have hsh := shaped_ok E n t m hq ht hm d l hd h1 h4 hc
 have hn7 := quoB_le hq
 have hcl := hd.clen
 have hvl := hd.vlen
 have hmv : m < d.v.length := by omega
 have hg1 : (d.v.map (·.1))[m]'(by rw [List.length_map]; exact hmv) = (d.v[m]).1 := List.getElem_map ..
 have hv2 := hd.vget m hmv
 refine Does.of Tryz.func58 rfl Tryz.ntmps58 rfl rfl fun F => ?_
 refine Xb ?_
 refine L_o rfl rfl rfl (O_box rfl fun b6 => ?_)
 refine Xn ?_
 refine Xv ?_
 refine X1 ?_
 refine Xd ?_
 refine L_o rfl rfl rfl (O_call [1,2,3,4] [0,5] hsh rfl rfl ?_)
 rintro _ _ ⟨rfl, rfl⟩
 refine Xav ?_
 refine Xay ?_
 refine X3 ?_
 refine Lq (Q_ld 4 rfl rfl rfl rfl) ?_
 refine Lq ((Q_lenAt 0 rfl rfl).as (v' := .int .i64 (l.length : Int)) (by rw [List.length_map, hcl])) ?_
 refine XJ ?_
 refine J_loop (fun i : Nat => i ≤ l.length) (fun i => [(3, .int .i64 ((m + 1 : Nat) : Int)), (6, .pointer (some ⟨b6, 0, none⟩)), (18, d.C.v), (19, .int .i64 (l.length : Int)), (20, .int .i64 (i : Int))]) (fun _ => [slc tPs true d.C (d.c.map (·.1)), stars (d.c.map rowP), slc tNs true d.V (d.v.map (·.1)), stars (d.v.map rowN), cel b6 (dlL d.C d.V) 43, F]) (fun i => l.length - i) 0 (Nat.zero_le _) ⟨rfl, rfl, rfl, rfl, rfl, trivial⟩ (Ent.refl _) ?_
 intro i hi
 by_cases h : i < l.length
 ·have hic : i < d.c.length := by omega
  have hgc : (d.c.map (·.1))[i]'(by rw [List.length_map]; exact hic) = (d.c[i]).1 := List.getElem_map ..
  have hc2 := hd.cget i hic h
  have hlm := List.getElem_mem h
  have hcl1 := hc _ hlm
  have hlt2 : (valW l[i] (m + 1)).n < Nt.pQ := ws_lt _
  have hfit := shr_fits l[i] (fun k hk => (hq2 _ hlm k hk).2) (m + 1)
  have hne : cmtL l[i] ≠ [] := fun e => by
   have := congrArg List.length e
   rw [cmtL_len, hcl1] at this
   cases this
  have hver := verify_ok E true (d.c[i]).1 (cmtL l[i]) (cmtL_ok _) (by rw [cmtL_len, hcl1]; omega) hne (m + 1) (by omega) (by omega) (valW l[i] (m + 1)) (valW_ok _ _) hlt2 hfit
  have hback : ∀ L, Ent (rowP d.c[i] :: stars ((d.c.eraseIdx i).map rowP) :: L) (stars (d.c.map rowP) :: L) := fun L => Ent.row_back rowP d.c i hic
  have hvi : (d.v[m]).2[i]'(by rw [hv2, List.length_map]; exact h) = valW l[i] (m + 1) := by simp only [hv2]; simp
  have hvl2 : i < (d.v[m]).2.length := by rw [hv2, List.length_map]; exact h
  generalize hvw : valW l[i] (m + 1) = vw at *
  refine XR ?_
  refine Lq (Q_ixAt 0 i rfl rfl rfl rfl (by rw [List.length_map]; exact hic) rfl) ?_
  refine Lq (Q_ldEAt 0 i 0 (v := (d.c[i]).1.v) rfl rfl rfl rfl (by rw [List.length_map]; exact hic) (by decide) (by rw [hgc]; rfl)) ?_
  refine XaK ?_
  refine J.ent ((Ent.re [1,0,2,3,4,5] rfl).trans (Ent.row_out rowP d.c i hic)) ?_
  generalize hx : d.c[i] = x at *
  obtain ⟨Sx, lx⟩ := x
  dsimp only at hc2 hver hgc
  subst hc2
  refine Xl ?_
  refine XD ?_
  refine Lq (Q_ld 5 rfl rfl rfl rfl) ?_
  refine XeA ?_
  refine Lq (Q_ixAt 3 m rfl rfl rfl rfl (by rw [List.length_map]; exact hmv) rfl) ?_
  refine Lq (Q_ldEAt 3 m 0 (v := (d.v[m]).1.v) rfl rfl rfl rfl (by rw [List.length_map]; exact hmv) (by decide) (by rw [hg1]; rfl)) ?_
  refine Xd ?_
  refine Lq (Q_ix (τ := tNm) i (fun w h => h.rdR 4 rfl m hmv) rfl rfl rfl hvl2 rfl) ?_
  refine Lq (Q_ldEA (τ := tNm) i 0 (vs := vw.l) (fun w h => h.rdR 4 rfl m hmv) rfl rfl rfl hvl2 (Nat.le_refl 4) (by rw [hvi]; rfl)) ?_
  refine Xk ?_
  refine L_o rfl rfl rfl (O_call [0] [1,2,3,4,5,6] hver rfl rfl ?_)
  rintro _ _ ⟨rfl, rfl⟩
  refine Xav ?_
  refine XaI ?_
  refine XaS ?_
  exact loopQ_normal (i + 1) (by omega) (by omega) ⟨rfl, rfl, rfl, rfl, rfl, trivial⟩ ((hback _).trans (Ent.re [1,0,2,3,4,5] rfl))
 ·refine Xae ?_
  refine Xaf ?_
  exact retQ_ret _ [_, _, _, _] (.cons (RV_tmp rfl) .nil) ⟨rfl, rfl⟩ (Ent.re [0,1,2,3,5] rfl)
end
end Go.Proofs
/- Interface values: made, their methods called. -/
set_option autoImplicit false
namespace Go.SL
/-- A struct type's own method, by value. -/
structure MetFn (P : Program) (t : Nat) (name : String) (f : Nat) : Prop where
 m : ((P.info? t).bind fun i => (i.methods.find? (·.name == name)).map fun m => (m.path.toList, m.func)) = some ([], some (f, false))
 u : (match P.underlying t with | some (.struct _) => true | _ => false) = true
theorem MetFn.un {P : Program} {t f : Nat} {name : String} (h : MetFn P t name f) : ∃ fs, P.underlying t = some (.struct fs) := by
 have := h.u
 split at this
 ·rename_i fs e; exact ⟨fs, e⟩
 ·cases this
theorem MetFn.get {P : Program} {t f : Nat} {name : String} (h : MetFn P t name f) : ∃ i m, P.info? t = some i ∧ i.methods.find? (·.name == name) = some m ∧ m.path.toList = [] ∧ m.func = some (f, false) := by
 have := h.m
 cases e : P.info? t with
 | none => rw [e] at this; cases this
 | some i =>
  rw [e] at this
  simp only [Option.bind_some] at this
  cases e2 : i.methods.find? (·.name == name) with
  | none => rw [e2] at this; cases this
  | some m =>
   rw [e2] at this
   simp only [Option.map_some, Option.some.injEq, Prod.mk.injEq] at this
   exact ⟨i, m, rfl, e2, this.1, this.2⟩
section
variable {P : Program} {E : World} {n : Nat} {ρ : Env} {L : List HProp} {dst : Option Tmp} {ty : TypeId} {pos : String} {after : Array Edge} {g : Option (Nat × Bool)}
end
end Go.SL
/- Code behind a deferred call: the walk, with panics. -/
set_option autoImplicit false
namespace Go.SL
def liftD (E : World) (n : Nat) (ds : List Deferred) (Q : Post) : Exit → Act → World → Prop := fun e a w => ∃ ρ L a', a = late ds a' ∧ Q e ρ L ∧ Agrees a' n ρ ∧ Sat E w L
/-- Code behind a deferred call. -/
def JD (P : Program) (E : World) (n : Nat) (ds : List Deferred) (c : Code) (Q : Post) (ρ : Env) (L : List HProp) : Prop :=
 ∀ a w, Agrees a n ρ → Sat E w L → c.wp P (liftD E n ds Q) (late ds a) w
def seqD (P : Program) (E : World) (n : Nat) (ds : List Deferred) (c : Code) (Q : Post) : Post
 | .normal, ρ, L => JD P E n ds c Q ρ L
 | e, ρ, L => Q e ρ L
def nrmQ (Q : Post) : Post := fun e ρ L => e = .normal ∧ Q .normal ρ L
section
variable {P : Program} {E : World} {n : Nat} {ds : List Deferred} {Q : Post} {ρ : Env} {L H : List HProp} {c d : Code}
theorem JD.ent {L' : List HProp} (he : Ent L L') (h : JD P E n ds c Q ρ L') : JD P E n ds c Q ρ L := fun a w ha hs => h a w ha (he E w hs)
theorem JD.norm {L' : List HProp} [g : NormL L L'] (h : JD P E n ds c Q ρ L') : JD P E n ds c Q ρ L := by rw [g.h]; exact h
theorem JD.have {p : Prop} (hp : ∀ w, Sat E w L → p) (h : p → JD P E n ds c Q ρ L) : JD P E n ds c Q ρ L := fun a w ha hs => h (hp w hs) a w ha hs
theorem JD_skip (h : Q .normal ρ L) : JD P E n ds .skip Q ρ L := fun a _ ha hs => wp_skip ⟨ρ, L, a, rfl, h, ha, hs⟩
theorem JD_exit {id : Nat} (h : Q (.exit id) ρ L) : JD P E n ds (.exit id) Q ρ L := fun a _ ha hs => wp_exit ⟨ρ, L, a, rfl, h, ha, hs⟩
theorem JD_ret (h : Q .ret ρ L) : JD P E n ds .ret Q ρ L := fun a _ ha hs => wp_ret ⟨ρ, L, a, rfl, h, ha, hs⟩
theorem JD_seq (h : JD P E n ds c (seqD P E n ds d Q) ρ L) : JD P E n ds (.seq c d) Q ρ L := fun a w ha hs =>
 wp_seq (wp_mono (h a w ha hs) fun e a' w' ⟨ρ', L', b, hb, hQ, ha', hs'⟩ => by
  subst hb
  cases e with
  | normal => exact hQ b w' ha' hs'
  | _ => exact ⟨ρ', L', b, rfl, hQ, ha', hs'⟩)
theorem JD_block {id : Nat} (h : JD P E n ds c (blockQ id Q) ρ L) : JD P E n ds (.block id c) Q ρ L := fun a w ha hs =>
 wp_block (wp_mono (h a w ha hs) fun e a' w' ⟨ρ', L', b, hb, hQ, ha', hs'⟩ => by
  subst hb
  cases e with
  | exit j =>
   simp only [Exit.inBlock]
   by_cases e : j = id
   ·subst e; simp only [blockQ, Nat.beq_refl, cond_true] at hQ; simp only [if_true]; exact ⟨ρ', L', b, rfl, hQ, ha', hs'⟩
   ·have : Nat.beq j id = false := by cases hb : Nat.beq j id with | false => rfl | true => exact absurd (Nat.eq_of_beq_eq_true hb) e
    simp only [blockQ, this, cond_false] at hQ
    simp only [e, if_false]; exact ⟨ρ', L', b, rfl, hQ, ha', hs'⟩
  | _ => exact ⟨ρ', L', b, rfl, hQ, ha', hs'⟩)
theorem seqD_normal (h : JD P E n ds c Q ρ L) : seqD P E n ds c Q .normal ρ L := h
theorem seqD_exit {id : Nat} (h : Q (.exit id) ρ L) : seqD P E n ds c Q (.exit id) ρ L := h
theorem seqD_panic {ch : List PanicEntry} (h : Q (.panic ch) ρ L) : seqD P E n ds c Q (.panic ch) ρ L := h
theorem blockQ_panic {id : Nat} {ch : List PanicEntry} (h : Q (.panic ch) ρ L) : blockQ id Q (.panic ch) ρ L := h
theorem loopQ_panic {ι : Type} {I : ι → Prop} {env : ι → Env} {res : ι → List HProp} {μ : ι → Nat} {i : ι} {ch : List PanicEntry} (h : Q (.panic ch) ρ L) : loopQ I env res μ i Q (.panic ch) ρ L := h
theorem JD_cond {x : Operand} {b : Bool} (hx : ρ.ev x = some (.bool b)) (h1 : b = true → JD P E n ds c Q ρ L) (h2 : b = false → JD P E n ds d Q ρ L) : JD P E n ds (.cond x c d) Q ρ L := fun a w ha hs =>
 wp_cond_split (by rw [late_eval]; exact ha.ev hx) (fun h => h1 h a w ha hs) (fun h => h2 h a w ha hs)
theorem JD_condT {x : Operand} (hx : ρ.ev x = some (.bool true)) (h1 : JD P E n ds c Q ρ L) : JD P E n ds (.cond x c d) Q ρ L := JD_cond hx (fun _ => h1) (fun h => by cases h)
theorem JD_condF {x : Operand} (hx : ρ.ev x = some (.bool false)) (h1 : JD P E n ds d Q ρ L) : JD P E n ds (.cond x c d) Q ρ L := JD_cond hx (fun h => by cases h) (fun _ => h1)
theorem JD_loop {ι : Type} (I : ι → Prop) (env : ι → Env) (res : ι → List HProp) (μ : ι → Nat) (i₀ : ι) (h0 : I i₀) (he : envSub (env i₀) ρ) (hL : Ent L (res i₀))
 (hb : ∀ i, I i → JD P E n ds c (loopQ I env res μ i Q) (env i) (res i)) : JD P E n ds (.loop c) Q ρ L := fun a w ha hs => by
 refine wp_loop_ghost (fun m a w => ∃ i b, a = late ds b ∧ μ i = m ∧ I i ∧ Agrees b n (env i) ∧ Sat E w (res i)) (μ i₀) ⟨i₀, a, rfl, rfl, h0, ha.sub he, hL E w hs⟩ ?_
 rintro m a w ⟨i, b, rfl, rfl, hI, ha, hs⟩
 refine wp_mono (hb i hI b w ha hs) fun e a' w' ⟨ρ', L', b', hb', hQ, ha', hs'⟩ => ?_
 subst hb'
 cases e with
 | normal =>
  obtain ⟨i', h1, h2, h3, h4⟩ := hQ
  exact ⟨μ i', h2, i', b', rfl, rfl, h1, ha'.sub h3, h4 E w' hs'⟩
 | _ => exact ⟨ρ', L', b', rfl, hQ, ha', hs'⟩
theorem JD_region {id : Nat} {l : List Oper} (h : JL P E n l l Q ρ L) : JD P E n ds (.region id l.toArray false) Q ρ L := fun a w ha hs =>
 wp_region_lit (wpList_late (fun _ a' _ ⟨ρ', L', hQ, ha', hs'⟩ => ⟨ρ', L', a', rfl, hQ, ha', hs'⟩) l a w (h a w ha hs))
theorem JOp.mono {o : Oper} {K K' : Value → List HProp → Prop} (h : JOp P E n o K ρ L) (hk : ∀ v L, K v L → K' v L) : JOp P E n o K' ρ L := fun a w ha hs next Q hn => h a w ha hs next Q fun v L' w' hK hs' => hn v L' w' (hk v L' hK) hs'
theorem JLoud.to {all : List Oper} {quiet : List Nat} {H : List HProp} {K K' : List HProp → Env → List HProp → Prop} {i : Nat} {ρ : Env} {L : List HProp} (hk : ∀ H ρ L, K H ρ L → K' H ρ L) (h : JLoud P E n all quiet H K i ρ L) : JLoud P E n all quiet H K' i ρ L := fun o ho => by
 obtain ⟨h1, h2⟩ := h o ho
 refine ⟨h1, ?_⟩
 cases hg : o.guard with
 | none =>
  rw [hg] at h2
  exact JOp.mono h2 fun v L ⟨H', a, b⟩ => ⟨H', a, hk _ _ _ b⟩
 | some gb =>
  obtain ⟨g, b⟩ := gb
  rw [hg] at h2
  obtain ⟨dd, cc, e1, e2, e3⟩ := h2
  refine ⟨dd, cc, e1, e2, ?_⟩
  by_cases hc : gbOf cc = some b
  ·rw [if_pos hc] at e3 ⊢
   exact JOp.mono e3 fun v L ⟨H', a, b⟩ => ⟨H', a, hk _ _ _ b⟩
  ·rw [if_neg hc] at e3 ⊢
   obtain ⟨H', a, b⟩ := e3
   exact ⟨H', a, hk _ _ _ b⟩
theorem JS.nrm {all : List Oper} {quiet : List Nat} {K : Post} : ∀ (s : Sched) (H : List HProp) (ρ : Env) (L : List HProp), JS P E n all quiet K s H ρ L → JS P E n all quiet (nrmQ K) s H ρ L
 | .done, _, _, _, h => ⟨rfl, h⟩
 | .quiet i r, H, ρ, L, h => fun o ho => by
  obtain ⟨v, h1, h2, h3, h4⟩ := h o ho
  exact ⟨v, h1, h2, h3, JS.nrm r _ _ _ h4⟩
 | .loud i r, H, ρ, L, h => JLoud.to (fun H ρ L => JS.nrm r H ρ L) h
 | .both i r j s, H, ρ, L, h => ⟨JLoud.to (fun H ρ L => JS.nrm r H ρ L) h.1, JLoud.to (fun H ρ L => JS.nrm s H ρ L) h.2⟩
theorem JD_drawH {id : Nat} {l : List Oper} (idx : List Nat) (quiet : List Nat) (sched : Sched) (hm : P.follows .mixedOrders = true)
 (hsel : Region.noSelect l.toArray = true) (ho : okSched l.toArray quiet l.toArray.size sched (Array.replicate l.toArray.size false) = true) [NormL (pick idx L) H]
 (h : JS P E n l quiet Q sched H ρ L) : JD P E n ds (.region id l.toArray true) Q ρ L := fun a w ha hs =>
 wp_region_any hm (wpAny_late (fun e a' w' ⟨ρ', L', hQ, ha', hs'⟩ => by obtain ⟨rfl, hQ⟩ := hQ; exact ⟨ρ', L', a', rfl, hQ, ha', hs'⟩) _ _ _ _ (wpAny_of_G _ _ _ _ _ (JS.sound hsel (fun c ρ L h => by cases h.1) sched _ _ H ρ L a _ ho Closed.start (JS.nrm sched H ρ L h) ha (hs.drawn _))))
end
end Go.SL
/- Calls that panic. -/
set_option autoImplicit false
namespace Go.SL
/-- A call that panics. -/
def DoesP (P : Program) (E : World) (f : Nat) (args : List Value) (pre : List HProp) (KP : List PanicEntry → List HProp → Prop) : Prop :=
 ∀ (F : HProp) (w : World), Sat E w (pre ++ [F]) → Calls P f args.toArray w fun e w' => ∃ c L', e = .panicked c ∧ KP c L' ∧ Sat E w' (L' ++ [F])
def panQ (KP : List PanicEntry → List HProp → Prop) (F : HProp) : Post
 | .panic c, _, L => ∃ L', KP c L' ∧ Ent L (L' ++ [F])
 | _, _, _ => False
theorem DoesP.of {P : Program} {E : World} {f n : Nat} {fn : Func} {c : Code} {args : List Value} {pre : List HProp} {KP : List PanicEntry → List HProp → Prop} (hf : P.funcs[f]? = some fn) (hb : fn.body = some c) (hn : fn.ntmps = n) (hl : Nat.ble args.length n = true)
 (h : ∀ F, J P E n c (panQ KP F) (argEnv 0 args) (pre ++ [F])) : DoesP P E f args pre KP := fun F w hs => by
 refine calls_of_wp hf hb (wp_mono (h F _ w (enter_agrees hn (Nat.le_of_ble_eq_true hl)) hs) fun e a' w' ⟨ρ', L', hQ, ha', hs'⟩ => ?_)
 cases e with
 | panic c =>
  obtain ⟨L'', h1, h2⟩ := hQ
  exact ⟨ha'.defers, _, _, rfl, h1, h2 E w' hs'⟩
 | _ => exact hQ.elim
section
variable {P : Program} {E : World} {n : Nat} {Q : Post} {ρ : Env} {L R pre : List HProp} {dst : Option Tmp} {ty : TypeId} {pos : String} {after : Array Edge} {all rest : List Oper}
theorem L_panic {x : Operand} {t : TypeId} {v : Value} (hx : ρ.ev x = some (.iface t v)) (hQ : Q (.panic [{ v := .iface t v, recovered := false }]) ρ L) : JL P E n all (⟨dst, .panic x, ty, pos, after, none⟩ :: rest) Q ρ L := fun a w ha hs =>
 wpList_plain rfl fun K _ => by
  unfold Oper.wp
  have e : (execOp a.eval ⟨dst, .panic x, ty, pos, after, none⟩).run P w = .halt (.panic (.iface t v)) w := by
   simp only [execOp, ha.ev hx]
   simp [Instr.panic]
  rw [e, Oper.upon_panic]
  exact ⟨ρ, L, hQ, ha, hs⟩
theorem L_callP {f : Nat} {xs : List Operand} {ts : Array TypeId} {vs : List Value} {KP : List PanicEntry → List HProp → Prop} (idx ridx : List Nat) [hf : HasFn P f] (hc : DoesP P E f vs pre KP) (hx : ρ.evs xs = some vs)
 (hi : okIdx L.length (idx ++ ridx) = true) [hp : NormL (pick idx L) pre] [hR : NormL (pick ridx L) R]
 (hQ : ∀ c L', KP c L' → Q (.panic c) ρ (L' ++ R)) : JL P E n all (⟨dst, .call ⟨.value (.func f), xs.toArray, ts⟩, ty, pos, after, none⟩ :: rest) Q ρ L := fun a w ha hs =>
 wpList_plain rfl fun K _ => by
  have h1 : Sat E w (pre ++ R) := by
   rw [← hp.h, ← hR.h]
   have := hs.pick _ hi
   rw [SL.pick, List.map_append] at this
   exact this
  have h2 := hc (stars R) w h1.fold
  unfold Oper.wp
  simp only [execOp, resolve]
  have e1 : (xs.toArray.map a.eval) = vs.toArray := by simp [← ha.evs hx]
  have e2 : a.eval (.func f) = .func (.func f) #[] #[] := rfl
  simp only [e1, e2, Deferred.ofValue, run_bind_pure, invoke, Array.empty_append, Array.append_empty]
  rw [run_callFunc hf]
  simp only [Oper.upon_enter]
  refine h2.mono ?_
  rintro e w' ⟨c, L', rfl, hk, hs'⟩
  exact ⟨ρ, _, hQ c L' hk, ha, hs'.unfold⟩
end
end Go.SL
/- A deferred function that recovers. -/
set_option autoImplicit false
namespace Go.SL
/-- A deferred function, called in one mode; the mode behind it. -/
def DoesR (P : Program) (E : World) (f : Nat) (args : List Value) (pre : List HProp) (u u2 : FrameMode) (K : Value → List HProp → Prop) : Prop :=
 ∀ (F : HProp) (w : World), Sat E w (pre ++ [F]) → CallsD P f args.toArray u w fun e m w' => m = u2 ∧ ∃ v L', e = .returned v ∧ K v L' ∧ Sat E w' (L' ++ [F])
/-- What recover gives in a mode, and the mode behind it. -/
inductive Rec : FrameMode → Value → FrameMode → Prop where
 | calm : Rec .returning .nilIface .returning
 | got (v : Value) : Rec (.panicking [{ v, recovered := false }]) v (.panicking [{ v, recovered := true }])
section
variable {P : Program} {E : World} {n : Nat}
theorem Rec.run {u u2 : FrameMode} {v : Value} (h : Rec u v u2) (c : Frame) (cs : List Frame) (hc : c.mode = u) : (match recoverD (c :: cs) with | some (x, cs') => x = v ∧ cs' = { c with mode := u2 } :: cs | none => v = .nilIface ∧ u2 = u) := by
 cases h with
 | calm => simp [recoverD, hc]
 | got v => simp [recoverD, hc]
theorem DoesR.of {f : Nat} {fn : Func} {id t3 t2 ty ty2 : Nat} {p1 p2 : String} {e1 e2 : Array Edge} {d : Code} {args : List Value} {pre : List HProp} {u u2 : FrameMode} {v : Value} {K : Value → List HProp → Prop} {rs : List ResultVar} (hR : Rec u v u2)
 (hf : P.funcs[f]? = some fn) (hb : fn.body = some (.seq (.region id #[⟨some t3, .call ⟨.builtin .recover, #[], #[]⟩, ty, p1, e1, none⟩, ⟨some t2, .assign (.tmp t3), ty2, p2, e2, none⟩] false) d)) (hn : fn.ntmps = n) (hr : fn.results = rs.toArray) (hl : Nat.ble args.length n = true) (h3 : Nat.blt t3 n = true) (h2 : Nat.blt t2 n = true)
 (h : ∀ F, J P E n d (retQ P E n rs K F) ((t2, v) :: (t3, v) :: argEnv 0 args) (pre ++ [F])) : DoesR P E f args pre u u2 K := fun F w hs => by
 refine callsD_of_wpS hf hb fun c₀ cs hc => wpS_seq (wpS_region ?_)
 have ha := enter_agrees (m := fn.ntmps) hn (Nat.le_of_ble_eq_true hl)
 generalize ({ tmps := args.toArray ++ Array.replicate (fn.ntmps - args.toArray.size) undef, defers := [] } : Act) = a at ha ⊢
 have hrec := hR.run c₀ cs hc
 have ha1 := ha.put (some t3) v h3
 have hev : (a.put (some t3) v).eval (.tmp t3) = v := ha1.ev (x := .tmp t3) (by simp [Env.ev, Env.put, Env.get])
 have ha2 := ha1.put (some t2) v h2
 have hx0 : ∀ (w : World), (execOp a.eval ⟨some t3, .call ⟨.builtin .recover, #[], #[]⟩, ty, p1, e1, none⟩).run P w = .ok .recover w := fun w => by
  simp [execOp, resolve, invoke, builtin]
 have hx1 : ∀ (w : World), (execOp (a.put (some t3) v).eval ⟨some t2, .assign (.tmp t3), ty2, p2, e2, none⟩).run P w = .ok (.value v) w := fun w => by
  simp [execOp, hev]
 have fin : ∀ cs', cs' = { c₀ with mode := u2 } :: cs → (Exit.thenS (d.wpS P (bodyPostS P fn c₀ cs fun e m w' => m = u2 ∧ ∃ v L', e = .returned v ∧ K v L' ∧ Sat E w' (L' ++ [F]))) (bodyPostS P fn c₀ cs fun e m w' => m = u2 ∧ ∃ v L', e = .returned v ∧ K v L' ∧ Sat E w' (L' ++ [F]))) .normal ((a.put (some t3) v).put (some t2) v) cs' w := fun cs' hcs => by
  subst hcs
  show d.wpS P _ _ _ _
  refine wpS_of_wp (wp_mono (h F _ w ha2 hs) fun e a' w' ⟨ρ', L', hQ, ha', hs'⟩ => ?_)
  cases e with
  | normal =>
   obtain ⟨vs, L'', q1, q2, q3⟩ := hQ
   exact Xf5
  | ret =>
   obtain ⟨vs, L'', q1, q2, q3⟩ := hQ
   exact Xf5
  | exit id => exact hQ.elim
  | goto l => exact hQ.elim
  | panic c => exact hQ.elim
  | outgrown => exact hQ.elim
 have hw0 : ∀ (o : Oper) y, o.guard = none → Region.wanted o y = true := fun o y h => by simp [Region.wanted, h]
 show wpOpsS P _ _ [0,1] a (c₀ :: cs) w
 simp only [wpOpsS]
 simp only [List.getElem?_toArray, List.getElem?_cons_zero]
 rw [if_pos (hw0 _ _ rfl), hx0 w]
 simp only
 cases hq : recoverD (c₀ :: cs) with
 | none =>
  rw [hq] at hrec
  obtain ⟨hv, hu⟩ := hrec
  simp only [List.getElem?_cons_succ, List.getElem?_cons_zero]
  rw [if_pos (hw0 _ _ rfl), ← hv, hx1 w]
  simp only [Oper.upon_value]
  exact fin _ (by rw [hu, ← hc])
 | some q =>
  obtain ⟨x, cs'⟩ := q
  rw [hq] at hrec
  obtain ⟨hv, hcs⟩ := hrec
  simp only [List.getElem?_cons_succ, List.getElem?_cons_zero]
  rw [if_pos (hw0 _ _ rfl), hv, hx1 w]
  simp only [Oper.upon_value]
  exact fin _ hcs
end
end Go.SL
/- Interfaces: asserted, compared with nothing. -/
set_option autoImplicit false
namespace Go.SL
section
variable {P : Program} {E : World} {n : Nat} {ρ : Env} {L : List HProp} {dst : Option Tmp} {ty : TypeId} {pos : String} {after : Array Edge} {g : Option (Nat × Bool)} {t t' : Nat} {x y : Operand}
theorem Q_tassert {a : Nat} {v : Value} {k : IntKind} [u : TyU P a (.int k)] (hx : ρ.ev x = some (.iface a v)) : QOp P E n ⟨dst, .typeAssert x t a true, ty, pos, after, g⟩ ρ L (.tuple #[v, .bool true]) := fun c w ha hs => by
 simp only [execOp, ha.ev hx]
 simp [Instr.typeAssert, run_underlying u.h]
theorem Q_ineN {ms : Array (String × TypeId)} [u : TyU P t (.interface ms)] (hx : ρ.ev x = some .nilIface) : QOp P E n ⟨dst, .binOp .neq t x (.const .nilIface) t', ty, pos, after, g⟩ ρ L (.bool false) := fun c w ha hs => by
 have h : ∀ d : Nat, (Op.equalIn (d + 1) t .nilIface .nilIface).run P w = .ok true w := fun d => by simp [Op.equalIn, run_underlying u.h]
 refine run_binOp c w ha hx rfl (by rw [eqGuard_nil_constR]; rfl) ?_
 simp only [binOp]
 simp [Op.equal, Op.maxDepth, h 9999]
theorem Q_ineS {ms : Array (String × TypeId)} {a : TypeId} {v : Value} [u : TyU P t (.interface ms)] (hx : ρ.ev x = some (.iface a v)) : QOp P E n ⟨dst, .binOp .neq t x (.const .nilIface) t', ty, pos, after, g⟩ ρ L (.bool true) := fun c w ha hs => by
 have h : ∀ d : Nat, (Op.equalIn (d + 1) t (.iface a v) .nilIface).run P w = .ok false w := fun d => by simp [Op.equalIn, run_underlying u.h]
 refine run_binOp c w ha hx rfl (by simp [eqGuard]) ?_
 simp only [binOp]
 simp [Op.equal, Op.maxDepth, h 9999]
end
end Go.SL
