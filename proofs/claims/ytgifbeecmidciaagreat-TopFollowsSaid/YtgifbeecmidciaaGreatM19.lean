/- Part 19 of the texts below the row: Fo1, Fo2, Fo3, Fo4, Ref37a, Ref37h, Pack, Kv6, Packr, UnpP, Unpack, Ref37c, Ref37d, Ref37e, Ref37f, Snap6, Ref37g. -/
import Derived.WalkSpells
import Derived.Test.YtgifbeecmidciaaGreatM18
/- One who follows: how it lies. -/
set_option autoImplicit false
namespace Go.Proofs
open Go.SL Go.Proofs.Bt
/-- A height's count: its map (and what lies in it), the first value that was told, was one? -/
structure Hg where
 m : Option (Nat × List (Ky × Int))
 first : Ky
 told : Bool
theorem str_beq (a b : List UInt8) : ((⟨a.toArray⟩ : ByteArray) == ⟨b.toArray⟩) = decide (a = b) := by
 show (a.toArray == b.toArray) = _
 by_cases h : a = b <;> simp [h]
def mT : MTy Ky Int := ⟨9, 3, .string, str, fun n => .int .i64 n, fun a b => by
 show some ((⟨a.toArray⟩ : ByteArray) == ⟨b.toArray⟩) = _
 rw [str_beq]
 by_cases h : a = b <;> simp [h], fun a => by
 show ((⟨a.toArray⟩ : ByteArray) == ⟨a.toArray⟩) = true
 rw [str_beq]; simp, .inr rfl⟩
instance : TyU Tryz.prog mT.kt mT.kd := inferInstanceAs (TyU Tryz.prog 9 .string)
instance : TyU Tryz.prog 73 (.map mT.kt mT.vt) := inferInstanceAs (TyU Tryz.prog 73 (.map 9 3))
instance : TyI Tryz.prog mT.vt 1 (.int .i64 0) 8 := inferInstanceAs (TyI Tryz.prog 3 1 (.int .i64 0) 8)
def hgV (g : Hg) : List Value := [.map (g.m.map (·.1)), str g.first, .bool g.told]
def foL (t : Int) (hd : Nat → Bool) (tl : Nat → Hg) : List Value := .int .i64 t :: ((List.range 512).map (fun i => Value.bool (hd i)) ++ (List.range 64).flatMap fun h => hgV (tl h))
theorem fm_len (f : Nat → List Value) (hf : ∀ i, (f i).length = 3) : ∀ n, ((List.range n).flatMap f).length = 3 * n
 | 0 => rfl
 | n + 1 => by rw [List.range_succ, List.flatMap_append, List.length_append, fm_len f hf n]; simp [hf]; omega
theorem fm_get (f : Nat → List Value) (hf : ∀ i, (f i).length = 3) (h k : Nat) (hk : k < 3) : ∀ n, h < n → ((List.range n).flatMap f)[3 * h + k]? = (f h)[k]?
 | 0, hh => by omega
 | n + 1, hh => by
  have hl := fm_len f hf n
  rw [List.range_succ, List.flatMap_append]
  by_cases e : h < n
  ·rw [List.getElem?_append_left (by omega)]
   exact fm_get f hf h k hk n e
  ·have e2 : h = n := by omega
   subst e2
   rw [List.getElem?_append_right (by omega), hl, show 3 * h + k - 3 * h = k by omega]
   simp
section
variable (t : Int) (hd : Nat → Bool) (tl : Nat → Hg)
theorem fo_len : (foL t hd tl).length = 705 := by
 have := fm_len (fun h => hgV (tl h)) (fun _ => rfl) 64
 simp only [foL, List.length_cons, List.length_append, List.length_map, List.length_range, this]
theorem fo_0 : (foL t hd tl)[0]? = some (.int .i64 t) := rfl
theorem fo_hd (j : Nat) (hj : j < 512) : (foL t hd tl)[1 + j]? = some (.bool (hd j)) := by
 unfold foL
 rw [Nat.add_comm, List.getElem?_cons_succ, List.getElem?_append_left (by simpa using hj)]
 simp [hj]
theorem fo_tl (h k : Nat) (hh : h < 64) (hk : k < 3) : (foL t hd tl)[513 + 3 * h + k]? = (hgV (tl h))[k]? := by
 unfold foL
 rw [show 513 + 3 * h + k = (512 + (3 * h + k)) + 1 by omega, List.getElem?_cons_succ, List.getElem?_append_right (by simp only [List.length_map, List.length_range]; omega)]
 rw [show 512 + (3 * h + k) - ((List.range 512).map fun i => Value.bool (hd i)).length = 3 * h + k by simp]
 exact fm_get (fun h => hgV (tl h)) (fun _ => rfl) h k hk 64 hh
theorem fo_ext {cs : List Value} (hl : cs.length = 705) (h0 : cs[0]? = some (.int .i64 t)) (h1 : ∀ j, j < 512 → cs[1 + j]? = some (.bool (hd j))) (h2 : ∀ h k, h < 64 → k < 3 → cs[513 + 3 * h + k]? = (hgV (tl h))[k]?) : cs = foL t hd tl := by
 apply List.ext_getElem?
 intro i
 by_cases e0 : i = 0
 ·subst e0; rw [h0]; rfl
 by_cases e1 : i < 513
 ·obtain ⟨j, rfl⟩ : ∃ j, i = 1 + j := ⟨i - 1, by omega⟩
  rw [h1 j (by omega), fo_hd t hd tl j (by omega)]
 by_cases e2 : i < 705
 ·obtain ⟨h, k, hk, rfl⟩ : ∃ h k, k < 3 ∧ i = 513 + 3 * h + k := ⟨(i - 513) / 3, (i - 513) % 3, Nat.mod_lt _ (by decide), by omega⟩
  rw [h2 h k (by omega) hk, fo_tl t hd tl h k (by omega) hk]
 ·rw [List.getElem?_eq_none (by omega), List.getElem?_eq_none (by rw [fo_len]; omega)]
def updB (hd : Nat → Bool) (j : Nat) : Nat → Bool := fun i => if i = j then true else hd i
def updG (tl : Nat → Hg) (h : Nat) (g : Hg) : Nat → Hg := fun i => if i = h then g else tl i
theorem fo_setHd (j : Nat) (hj : j < 512) : (foL t hd tl).set (1 + j) (.bool true) = foL t (updB hd j) tl := by
 have hl := fo_len t hd tl
 refine fo_ext _ _ _ (by rw [List.length_set, hl]) ?_ ?_ ?_
 ·rw [List.getElem?_set_ne (by omega)]; rfl
 ·intro i hi
  by_cases e : i = j
  ·subst e
   rw [List.getElem?_set_self (by omega)]; simp [updB]
  ·rw [List.getElem?_set_ne (by omega), fo_hd t hd tl i hi]; simp [updB, e]
 ·intro h k hh hk
  rw [List.getElem?_set_ne (by omega), fo_tl t hd tl h k hh hk]
theorem fo_setTl (h k : Nat) (v : Value) (g : Hg) (hh : h < 64) (hk : k < 3) (hg : (hgV (tl h)).set k v = hgV g) : (foL t hd tl).set (513 + 3 * h + k) v = foL t hd (updG tl h g) := by
 have hl := fo_len t hd tl
 refine fo_ext _ _ _ (by rw [List.length_set, hl]) ?_ ?_ ?_
 ·rw [List.getElem?_set_ne (by omega)]; rfl
 ·intro i hi
  rw [List.getElem?_set_ne (by omega), fo_hd t hd tl i hi]
 ·intro h' k' hh' hk'
  by_cases e : h' = h
  ·subst e
   have e3 : (updG tl h' g) h' = g := by simp [updG]
   rw [e3, ← hg]
   by_cases ek : k' = k
   ·subst ek
    rw [List.getElem?_set_self (by omega), List.getElem?_set_self (by exact hk')]
   ·rw [List.getElem?_set_ne (by omega), List.getElem?_set_ne (by omega), fo_tl t hd tl h' k' hh' hk']
  ·rw [List.getElem?_set_ne (by omega), fo_tl t hd tl h' k' hh' hk']
   simp [updG, e]
end
def mapC (g : Hg) : HProp := match g.m with
 | none => stars []
 | some (r, l) => mpC mT r l
def fol0 (t : Int) : List Value := foL t (fun _ => false) (fun _ => ⟨none, [], false⟩)
theorem fol_fill (t : Int) : FillL [(0, 1), (1, 512), (513, 192)] bz78 [(0, .int .i64 t)] (fol0 t) := ⟨by kernel_rfl⟩
end Go.Proofs
/- One who follows: an answer counted. -/
set_option autoImplicit false
namespace Go.SL
theorem Q_mapnil {P : Program} {E : World} {n : Nat} {ρ : Env} {L : List HProp} {dst : Option Tmp} {ty : TypeId} {pos : String} {after : Array Edge} {g : Option (Nat × Bool)} {t t' k e : Nat} {x y : Operand} {r : Option Nat} [u : TyU P t (.map k e)] (hx : ρ.ev x = some (.map r)) (hy : ρ.ev y = some (.map none)) : QOp P E n ⟨dst, .binOp .eql t x y t', ty, pos, after, g⟩ ρ L (.bool r.isNone) := fun c w ha _ =>
 run_binOp c w ha hx hy (by simp [eqGuard]) (run_eql_map_nil w t k e r u.h)
end Go.SL
namespace Go.Proofs
open Go.SL Go.Proofs.Bt
def mapG (g : Hg) : List (Ky × Int) := match g.m with
 | none => []
 | some (_, l) => l
def cntG (g : Hg) (x : Ky) : Int := (mget (mapG g) x).getD 0
/-- A value told once more; r: its map. -/
def addG (g : Hg) (r : Nat) (x : Ky) (need : Int) : Hg := ⟨some (r, mset (mapG g) x (cntG g x + 1)), if g.told = false ∧ need ≤ cntG g x + 1 then x else g.first, g.told || decide (need ≤ cntG g x + 1)⟩
section
variable (t : Int) (hd : Nat → Bool) (tl : Nat → Hg)
theorem updG_at (h : Nat) (g : Hg) : updG tl h g h = g := by simp [updG]
theorem updG_upd (h : Nat) (g g' : Hg) : updG (updG tl h g) h g' = updG tl h g' := by
 funext i; unfold updG; split <;> rfl
theorem updG_self (h : Nat) (g : Hg) (e : tl h = g) : updG tl h g = tl := by
 funext i; unfold updG; split
 ·rename_i e2; rw [e2, e]
 ·rfl
theorem fo_tlU (h k : Nat) (g : Hg) (hh : h < 64) (hk : k < 3) : (foL t hd (updG tl h g))[513 + 3 * h + k]? = (hgV g)[k]? := by
 rw [fo_tl t hd _ h k hh hk, updG_at]
theorem fo_setU (h k : Nat) (v : Value) (g g' : Hg) (hh : h < 64) (hk : k < 3) (hg : (hgV g).set k v = hgV g') : SetV (foL t hd (updG tl h g)) (513 + 3 * h + k) v (foL t hd (updG tl h g')) :=
 ⟨by rw [fo_setTl t hd _ h k v g' hh hk (by rw [updG_at]; exact hg), updG_upd], by rw [fo_len]; omega⟩
theorem fo_congr (h : Nat) (g g' : Hg) (e : hgV g = hgV g') : foL t hd (updG tl h g) = foL t hd (updG tl h g') := by
 unfold foL
 congr 2
 have : (fun h' => hgV (updG tl h g h')) = fun h' => hgV (updG tl h g' h') := by
  funext i
  unfold updG
  split
  ·exact e
  ·rfl
 rw [this]
end
attribute [local irreducible] J JL QOp JOp seqQ blockQ loopQ retQ slc cel hex star pur stars Does RV Ent pAt scopeQ
attribute [local irreducible] foL
theorem fadd_ok (E : World) (p h : Nat) (t : Int) (hd : Nat → Bool) (tl : Nat → Hg) (x : Ky) (need : Int) (hh : h < 64) (hc : 0 ≤ cntG (tl h) x ∧ cntG (tl h) x ≤ 1000000) :
 Does Tryz.prog E 34 [.pointer (some ⟨p, 513 + 3 * h, none⟩), str x, .int .i64 need] [cel p (foL t hd tl) 78, mapC (tl h)] fun r L => ∃ m : Nat, r = .tuple #[] ∧ L = [cel p (foL t hd (updG tl h (addG (tl h) m x need))) 78, mapC (addG (tl h) m x need)] := by
 rcases hg : tl h with ⟨mm, first, told⟩
 have hself := updG_self tl h _ hg
 rw [← hself]
 refine Does.of Tryz.func34 rfl Tryz.ntmps34 rfl rfl fun F => ?_
 refine J.norm ?_
 refine J_seq ?_
 refine J.mid (fun ρ' L' => ∃ (r : Nat) (l : List (Ky × Int)), l = mapG ⟨mm, first, told⟩ ∧ envSub [(0, .pointer (some ⟨p, 513 + 3 * h, none⟩)), (1, str x), (2, .int .i64 need)] ρ' ∧ Ent L' [cel p (foL t hd (updG tl h ⟨some (r, l), first, told⟩)) 78, mpC mT r l, F]) ?_ ?_
 ·cases mm with
  | none =>
   refine Sr ?_
   refine Lq (Q_move rfl) ?_
   refine Lq (Q_nilCheck rfl) ?_
   refine Lq (Q_fa rfl rfl) ?_
   refine Lq (Q_ld 0 rfl rfl rfl (fo_tlU t hd tl h 0 ⟨none, first, told⟩ hh (by decide))) ?_
   refine Lq ((Q_mapnil rfl rfl).as (v' := .bool true) rfl) ?_
   refine Ln ?_
   refine J_condT rfl ?_
   refine J_region ?_
   refine Lq (Q_move rfl) ?_
   refine L_o rfl rfl rfl (O_mnew mT fun r => ?_)
   refine JL.norm ?_
   refine Lq (Q_nilCheck rfl) ?_
   refine Lq (Q_fa rfl rfl) ?_
   refine L_s rfl rfl (O_st1 1 rfl rfl rfl rfl rfl (hcs := fo_setU t hd tl h 0 (.map (some r)) ⟨none, first, told⟩ ⟨some (r, []), first, told⟩ hh (by decide) rfl) ?_)
   refine JL.norm ?_
   refine JL_nil ?_
   exact ⟨rfl, r, [], rfl, ⟨rfl, rfl, rfl, trivial⟩, Ent.re [1,0,3] rfl⟩
  | some rl =>
   obtain ⟨r, l⟩ := rl
   refine Sr ?_
   refine Lq (Q_move rfl) ?_
   refine Lq (Q_nilCheck rfl) ?_
   refine Lq (Q_fa rfl rfl) ?_
   refine Lq (Q_ld 0 rfl rfl rfl (fo_tlU t hd tl h 0 ⟨some (r, l), first, told⟩ hh (by decide))) ?_
   refine Lq ((Q_mapnil rfl rfl).as (v' := .bool false) rfl) ?_
   refine Ln ?_
   refine J_condF rfl ?_
   refine J_skip ?_
   exact ⟨rfl, r, l, rfl, ⟨rfl, rfl, rfl, trivial⟩, Ent.refl _⟩
 rintro ρ1 L1 ⟨r, l, rfl, hsub, hent⟩
 refine J.sub hsub ?_
 refine J.ent hent ?_
 clear hsub hent
 have hcnt : cntG ⟨mm, first, told⟩ x = (mget (mapG ⟨mm, first, told⟩) x).getD 0 := rfl
 rw [hg] at hc
 have hadd : addG ⟨mm, first, told⟩ r x need = ⟨some (r, mset (mapG ⟨mm, first, told⟩) x (cntG ⟨mm, first, told⟩ x + 1)), if told = false ∧ need ≤ cntG ⟨mm, first, told⟩ x + 1 then x else first, told || decide (need ≤ cntG ⟨mm, first, told⟩ x + 1)⟩ := rfl
 have hmc : ∀ g : Hg, ∀ l, g.m = some (r, l) → mapC g = mpC mT r l := fun g l e => by unfold mapC; rw [e]
 have hpost : ∀ (g' : Hg) (l' : List (Ky × Int)), g' = addG ⟨mm, first, told⟩ r x need → l' = mset (mapG ⟨mm, first, told⟩) x (cntG ⟨mm, first, told⟩ x + 1) → ∃ m : Nat, (Value.tuple #[]) = .tuple #[] ∧ [cel p (foL t hd (updG tl h g')) 78, mpC mT r l'] = [cel p (foL t hd (updG (updG tl h ⟨mm, first, told⟩) h (addG ⟨mm, first, told⟩ m x need))) 78, mapC (addG ⟨mm, first, told⟩ m x need)] := by
  rintro g' l' rfl rfl
  exact ⟨r, rfl, by rw [updG_upd, hmc _ _ rfl]⟩
 generalize mapG ⟨mm, first, told⟩ = l at *
 generalize cntG ⟨mm, first, told⟩ x = c at *
 have hl1 : (((mget l x).map mT.venc).getD (.int .i64 0)) = .int .i64 c := by
  rw [hcnt]; cases mget l x <;> rfl
 have hl2 : (((mget (mset l x (c + 1)) x).map mT.venc).getD (.int .i64 0)) = .int .i64 (c + 1) := by
  rw [mget_mset, if_pos rfl]; rfl
 refine Sr ?_
 refine Lq (Q_move rfl) ?_
 refine Lq (Q_nilCheck rfl) ?_
 refine Lq (Q_fa rfl rfl) ?_
 refine Lq (Q_ld 0 rfl rfl rfl (fo_tlU t hd tl h 0 ⟨some (r, l), first, told⟩ hh (by decide))) ?_
 refine Lq (Q_move rfl) ?_
 refine Lq ((Q_mget (M := mT) 1 x rfl rfl rfl).as hl1) ?_
 refine Lq (Q_add (r := c + 1) rfl rfl (IntWalk.i64_in _ (by omega))) ?_
 refine L_s rfl rfl (O_mset (M := mT) 1 x (c + 1) rfl rfl rfl rfl ?_)
 refine JL.norm ?_
 refine Ln ?_
 refine J_seq ?_
 cases told with
 | true =>
  obtain ⟨m, _, he⟩ := hpost ⟨some (r, mset l x (c + 1)), first, true⟩ _ (by rw [hadd]; simp) rfl
  have hco := fo_congr t hd tl h ⟨some (r, l), first, true⟩ ⟨some (r, mset l x (c + 1)), first, true⟩ rfl
  refine J_region ?_
  refine Lq (Q_move rfl) ?_
  refine Lq (Q_nilCheck rfl) ?_
  refine Lq (Q_fa rfl rfl) ?_
  refine Lq (Q_ld 0 rfl rfl rfl (fo_tlU t hd tl h 2 ⟨some (r, l), first, true⟩ hh (by decide))) ?_
  refine Lq ((Q_not rfl).as (v' := .bool false) rfl) ?_
  refine Lq (Q_move rfl) ?_
  refine L_n rfl rfl rfl ?_
  refine L_n rfl rfl rfl ?_
  refine L_n rfl rfl rfl ?_
  refine L_n rfl rfl rfl ?_
  refine L_n rfl rfl rfl ?_
  refine L_n rfl rfl rfl ?_
  refine L_n rfl rfl rfl ?_
  refine L_n rfl rfl rfl ?_
  refine Lq (Q_pickF rfl rfl) ?_
  refine Ln ?_
  refine J_condF rfl ?_
  refine J_skip ?_
  rw [hco]
  exact retQ_normal [] _ .nil ⟨m, rfl, he⟩ (Ent.refl _)
 | false =>
  by_cases hn : need ≤ c + 1
  ·obtain ⟨m, _, he⟩ := hpost ⟨some (r, mset l x (c + 1)), x, true⟩ _ (by rw [hadd]; simp [hn]) rfl
   have hco := fo_congr t hd tl h ⟨some (r, l), x, true⟩ ⟨some (r, mset l x (c + 1)), x, true⟩ rfl
   refine J_region ?_
   refine Lq (Q_move rfl) ?_
   refine Lq (Q_nilCheck rfl) ?_
   refine Lq (Q_fa rfl rfl) ?_
   refine Lq (Q_ld 0 rfl rfl rfl (fo_tlU t hd tl h 2 ⟨some (r, l), first, false⟩ hh (by decide))) ?_
   refine Lq ((Q_not rfl).as (v' := .bool true) rfl) ?_
   refine Lq (Q_move rfl) ?_
   refine Lq (Q_move rfl) ?_
   refine Lq (Q_nilCheck rfl) ?_
   refine Lq (Q_fa rfl rfl) ?_
   refine Lq (Q_ld 0 rfl rfl rfl (fo_tlU t hd tl h 0 ⟨some (r, l), first, false⟩ hh (by decide))) ?_
   refine Lq (Q_move rfl) ?_
   refine Lq ((Q_mget (M := mT) 1 x rfl rfl rfl).as hl2) ?_
   refine Lq (Q_move rfl) ?_
   refine Lq ((Q_geq rfl rfl).as (v' := .bool true) (congrArg Value.bool (decide_eq_true hn))) ?_
   refine Lq (Q_pickT rfl rfl) ?_
   refine Ln ?_
   refine J_condT rfl ?_
   refine J_region ?_
   refine Lq (Q_move rfl) ?_
   refine Lq (Q_move rfl) ?_
   refine Lq (Q_move rfl) ?_
   refine Lq (Q_nilCheck rfl) ?_
   refine Lq (Q_fa rfl rfl) ?_
   refine L_s rfl rfl (O_st1 0 rfl rfl rfl rfl rfl (hcs := fo_setU t hd tl h 1 (str x) ⟨some (r, l), first, false⟩ ⟨some (r, l), x, false⟩ hh (by decide) rfl) ?_)
   refine JL.norm ?_
   refine Lq (Q_nilCheck rfl) ?_
   refine Lq (Q_fa rfl rfl) ?_
   refine L_s rfl rfl (O_st1 0 rfl rfl rfl rfl rfl (hcs := fo_setU t hd tl h 2 (.bool true) ⟨some (r, l), x, false⟩ ⟨some (r, l), x, true⟩ hh (by decide) rfl) ?_)
   refine JL.norm ?_
   refine JL_nil ?_
   rw [hco]
   exact retQ_normal [] _ .nil ⟨m, rfl, he⟩ (Ent.refl _)
  ·obtain ⟨m, _, he⟩ := hpost ⟨some (r, mset l x (c + 1)), first, false⟩ _ (by rw [hadd]; simp [hn]) rfl
   have hco := fo_congr t hd tl h ⟨some (r, l), first, false⟩ ⟨some (r, mset l x (c + 1)), first, false⟩ rfl
   refine J_region ?_
   refine Lq (Q_move rfl) ?_
   refine Lq (Q_nilCheck rfl) ?_
   refine Lq (Q_fa rfl rfl) ?_
   refine Lq (Q_ld 0 rfl rfl rfl (fo_tlU t hd tl h 2 ⟨some (r, l), first, false⟩ hh (by decide))) ?_
   refine Lq ((Q_not rfl).as (v' := .bool true) rfl) ?_
   refine Lq (Q_move rfl) ?_
   refine Lq (Q_move rfl) ?_
   refine Lq (Q_nilCheck rfl) ?_
   refine Lq (Q_fa rfl rfl) ?_
   refine Lq (Q_ld 0 rfl rfl rfl (fo_tlU t hd tl h 0 ⟨some (r, l), first, false⟩ hh (by decide))) ?_
   refine Lq (Q_move rfl) ?_
   refine Lq ((Q_mget (M := mT) 1 x rfl rfl rfl).as hl2) ?_
   refine Lq (Q_move rfl) ?_
   refine Lq ((Q_geq rfl rfl).as (v' := .bool false) (congrArg Value.bool (decide_eq_false hn))) ?_
   refine Lq (Q_pickT rfl rfl) ?_
   refine Ln ?_
   refine J_condF rfl ?_
   refine J_skip ?_
   rw [hco]
   exact retQ_normal [] _ .nil ⟨m, rfl, he⟩ (Ent.refl _)
end Go.Proofs
/- One who follows: made, told, asked for its log. -/
set_option autoImplicit false
namespace Go.Proofs
open Go.SL Go.Proofs.Bt
theorem Ent.blank {L : List HProp} : ∀ n : Nat, Ent L (stars ((List.range n).map fun _ => mapC ⟨none, [], false⟩) :: L)
 | 0 => Ent.stars_nil
 | n + 1 => by
  rw [List.range_succ]
  refine (Ent.blank n).trans (Ent.trans ?_ (Ent.last_in (fun _ => mapC ⟨none, [], false⟩) (List.range n) n))
  exact Ent.stars_nil
abbrev folC (p : Nat) (t : Int) (hd : Nat → Bool) (tl : Nat → Hg) : HProp := cel p (foL t hd tl) 78
def folM (tl : Nat → Hg) : HProp := stars ((List.range 64).map fun h => mapC (tl h))
theorem range_at {h : Nat} (hh : h < 64) : List.range 64 = List.range h ++ h :: (List.range (63 - h)).map (· + (h + 1)) := by
 apply List.ext_getElem?
 intro i
 by_cases h1 : i < h
 ·rw [List.getElem?_append_left (by simpa using h1), List.getElem?_range (by omega), List.getElem?_range h1]
 ·rw [List.getElem?_append_right (by simp; omega)]
  simp only [List.length_range]
  by_cases h2 : i = h
  ·subst h2
   simp [hh]
  ·obtain ⟨j, hj⟩ : ∃ j, i - h = j + 1 := ⟨i - h - 1, by omega⟩
   rw [hj, List.getElem?_cons_succ]
   by_cases h3 : i < 64
   ·rw [List.getElem?_range h3, List.getElem?_map, List.getElem?_range (by omega)]
    simp; omega
   ·rw [List.getElem?_eq_none (by simp; omega), List.getElem?_eq_none (by simp; omega)]
theorem map_upd (tl : Nat → Hg) (h : Nat) (g : Hg) (l : List Nat) (hl : h ∉ l) : (l.map fun i => mapC (updG tl h g i)) = l.map fun i => mapC (tl i) := by
 apply List.map_congr_left
 intro i hi
 have : i ≠ h := fun e => hl (e ▸ hi)
 simp [updG, this]
theorem Ent.mapOut {tl : Nat → Hg} {h : Nat} (hh : h < 64) : ∃ R : HProp, (∀ L, Ent (folM tl :: L) (mapC (tl h) :: R :: L)) ∧ ∀ (g : Hg) (L : List HProp), Ent (mapC g :: R :: L) (folM (updG tl h g) :: L) := by
 refine ⟨stars ((List.range h ++ (List.range (63 - h)).map (· + (h + 1))).map fun i => mapC (tl i)), fun L => ?_, fun g L => ?_⟩
 ·unfold folM
  rw [range_at hh]
  exact Ent.mid_out (fun i => mapC (tl i)) (List.range h) h _
 ·unfold folM
  rw [range_at hh]
  have h1 := Ent.mid_in (L := L) (fun i => mapC (updG tl h g i)) (List.range h) h ((List.range (63 - h)).map (· + (h + 1)))
  rw [map_upd tl h g _ (by simp; omega)] at h1
  simp only [updG_at] at h1
  exact h1
attribute [local irreducible] J JL QOp JOp seqQ blockQ loopQ retQ slc cel hex star pur stars Does RV Ent pAt scopeQ
attribute [local irreducible] foL folM mapC bz78 fol0
theorem fnew_ok (E : World) (t : Int) : Does Tryz.prog E 10 [.int .i64 t] [] fun r L => ∃ p : Nat, r = .pointer (some ⟨p, 0, none⟩) ∧ L = [folC p (min (max t 0) 2) (fun _ => false) (fun _ => ⟨none, [], false⟩), folM fun _ => ⟨none, [], false⟩] := by
 have hf := fol_fill (min (max t 0) 2)
 refine Does.of Tryz.func10 rfl Tryz.ntmps10 rfl rfl fun F => ?_
 refine J.norm ?_
 refine Sr ?_
 refine Lq (Q_assign rfl) ?_
 refine Ln ?_
 refine Sr ?_
 refine Lq (Q_move rfl) ?_
 refine Lq (Q_max2 rfl rfl) ?_
 refine Lq (Q_min2 rfl rfl) ?_
 refine Lq (Q_build (hc := hf) rfl) ?_
 refine L_o rfl rfl rfl (O_box rfl fun b7 => ?_)
 refine Lq (Q_assign rfl) ?_
 refine Ln ?_
 refine J_ret ?_
 refine retQ_ret _ [folC b7 (min (max t 0) 2) (fun _ => false) (fun _ => ⟨none, [], false⟩), folM fun _ => ⟨none, [], false⟩] (.cons (RV_tmp rfl) .nil) ⟨b7, rfl, rfl⟩ ?_
 refine (Ent.blank 64).trans ?_
 unfold folM fol0
 exact Ent.re [1,0,2] rfl
theorem fheight_ok (E : World) (p : Nat) (h : Int) : Does Tryz.prog E 33 [.pointer (some ⟨p, 0, none⟩), .int .i64 h] [] fun r L => r = .bool (decide (0 ≤ h ∧ h < 64)) ∧ L = [] := by
 refine Does.of Tryz.func33 rfl Tryz.ntmps33 rfl rfl fun F => ?_
 refine J.norm ?_
 refine Sr ?_
 refine Lq (Q_assign rfl) ?_
 refine Ln ?_
 refine J_seq ?_
 by_cases h0 : 0 ≤ h
 ·by_cases h1 : h < 64
  ·skip
   refine J_region ?_
   refine Lq (Q_move rfl) ?_
   refine Lq ((Q_pneq rfl rfl).as (v' := .bool true) rfl) ?_
   refine Lq (Q_move rfl) ?_
   refine Lq (Q_move rfl) ?_
   refine Lq ((Q_geq rfl rfl).as (v' := .bool true) (congrArg Value.bool (decide_eq_true h0))) ?_
   refine Lq (Q_pickT rfl rfl) ?_
   refine Lq (Q_move rfl) ?_
   refine Lq (Q_move rfl) ?_
   refine Lq ((Q_lss rfl rfl).as (v' := .bool true) (congrArg Value.bool (decide_eq_true h1))) ?_
   refine Lq (Q_pickT rfl rfl) ?_
   refine Lq (Q_assign rfl) ?_
   refine Ln ?_
   refine J_ret ?_
   exact retQ_ret _ [] (.cons (RV_tmp rfl) .nil) ⟨by simp [h0, h1, oneOf], rfl⟩ (Ent.refl _)
  ·skip
   refine J_region ?_
   refine Lq (Q_move rfl) ?_
   refine Lq ((Q_pneq rfl rfl).as (v' := .bool true) rfl) ?_
   refine Lq (Q_move rfl) ?_
   refine Lq (Q_move rfl) ?_
   refine Lq ((Q_geq rfl rfl).as (v' := .bool true) (congrArg Value.bool (decide_eq_true h0))) ?_
   refine Lq (Q_pickT rfl rfl) ?_
   refine Lq (Q_move rfl) ?_
   refine Lq (Q_move rfl) ?_
   refine Lq ((Q_lss rfl rfl).as (v' := .bool false) (congrArg Value.bool (decide_eq_false h1))) ?_
   refine Lq (Q_pickT rfl rfl) ?_
   refine Lq (Q_assign rfl) ?_
   refine Ln ?_
   refine J_ret ?_
   exact retQ_ret _ [] (.cons (RV_tmp rfl) .nil) ⟨by simp [h0, h1, oneOf], rfl⟩ (Ent.refl _)
 ·skip
  refine J_region ?_
  refine Lq (Q_move rfl) ?_
  refine Lq ((Q_pneq rfl rfl).as (v' := .bool true) rfl) ?_
  refine Lq (Q_move rfl) ?_
  refine Lq (Q_move rfl) ?_
  refine Lq ((Q_geq rfl rfl).as (v' := .bool false) (congrArg Value.bool (decide_eq_false h0))) ?_
  refine Lq (Q_pickT rfl rfl) ?_
  refine Lq (Q_move rfl) ?_
  refine L_n rfl rfl rfl ?_
  refine L_n rfl rfl rfl ?_
  refine Lq (Q_pickF rfl rfl) ?_
  refine Lq (Q_assign rfl) ?_
  refine Ln ?_
  refine J_ret ?_
  exact retQ_ret _ [] (.cons (RV_tmp rfl) .nil) ⟨by simp [h0, oneOf], rfl⟩ (Ent.refl _)
theorem ftold_ok (E : World) (p h : Nat) (t : Int) (hd : Nat → Bool) (tl : Nat → Hg) (hh : h ≤ 64) : Does Tryz.prog E 35 [.pointer (some ⟨p, 0, none⟩), .int .i64 (h : Int)] [folC p t hd tl] fun r L => r = .tuple #[str (if h < 64 then (tl h).first else []), .bool (decide (h < 64) && (tl h).told)] ∧ L = [folC p t hd tl] := by
 have hhe := fheight_ok E p (h : Int)
 by_cases hl : h < 64
 ·rw [show decide ((0 : Int) ≤ (h : Int) ∧ (h : Int) < 64) = true by apply decide_eq_true; omega] at hhe
  rw [if_pos hl, show (decide (h < 64) && (tl h).told) = (tl h).told by simp [hl]]
  refine Does.of Tryz.func35 rfl Tryz.ntmps35 rfl rfl fun F => ?_
  refine J.norm ?_
  refine Sr ?_
  refine Lq (Q_assign rfl) ?_
  refine Lq (Q_assign rfl) ?_
  refine Ln ?_
  refine J_seq ?_
  refine Sr ?_
  refine Lq (Q_move rfl) ?_
  refine Lq (Q_move rfl) ?_
  refine L_o rfl rfl rfl (O_call [] [0,1] hhe rfl rfl ?_)
  rintro _ _ ⟨rfl, rfl⟩
  refine JL.norm ?_
  refine Lq ((Q_not rfl).as (v' := .bool false) rfl) ?_
  refine Ln ?_
  refine J_condF rfl ?_
  refine J_skip ?_
  refine seqQ_normal ?_
  refine Sr ?_
  refine Lq (Q_move rfl) ?_
  refine Lq (Q_move rfl) ?_
  refine Lq (Q_nilCheck rfl) ?_
  refine Lq (Q_fa0 rfl) ?_
  refine Lq (Q_ia (o' := 513 + 3 * h) h rfl rfl rfl hl (by omega)) ?_
  refine Lq (Q_assign rfl) ?_
  refine Ln ?_
  refine J_seq ?_
  refine DL [0,1,2,3,4,5,6,7,8,9] (.quiet 0 (.quiet 1 (.quiet 2 (.quiet 3 (.quiet 4 (.quiet 5 (.quiet 6 (.quiet 7 (.quiet 8 (.quiet 9 .done)))))))))) Tryz.mixed ?_
  refine Sq (Ent.refl _) rfl (Q_move rfl) ?_
  refine Sq (Ent.refl _) rfl (Q_nilCheck rfl) ?_
  refine Sq (Ent.refl _) rfl (Q_fa rfl rfl) ?_
  refine Sq (Ent.refl _) rfl (Q_ld 0 rfl rfl rfl ((fo_tl t hd tl h 1 hl (by decide)).trans rfl)) ?_
  refine Sq (Ent.refl _) rfl (Q_move rfl) ?_
  refine Sq (Ent.refl _) rfl (Q_nilCheck rfl) ?_
  refine Sq (Ent.refl _) rfl (Q_fa rfl rfl) ?_
  refine Sq (Ent.refl _) rfl (Q_ld 0 rfl rfl rfl ((fo_tl t hd tl h 2 hl (by decide)).trans rfl)) ?_
  refine Sq (Ent.refl _) rfl (Q_assign rfl) ?_
  refine Sq (Ent.refl _) rfl (Q_assign rfl) ?_
  refine S_nil ?_
  refine seqQ_normal ?_
  refine J_ret ?_
  exact retQ_ret _ [folC p t hd tl] (.cons (RV_tmp rfl) (.cons (RV_tmp rfl) .nil)) ⟨rfl, rfl⟩ (Ent.refl _)
 ·rw [show decide ((0 : Int) ≤ (h : Int) ∧ (h : Int) < 64) = false by apply decide_eq_false; omega] at hhe
  rw [if_neg hl, show (decide (h < 64) && (tl h).told) = false by simp [hl]]
  refine Does.of Tryz.func35 rfl Tryz.ntmps35 rfl rfl fun F => ?_
  refine J.norm ?_
  refine Sr ?_
  refine Lq (Q_assign rfl) ?_
  refine Lq (Q_assign rfl) ?_
  refine Ln ?_
  refine J_seq ?_
  refine Sr ?_
  refine Lq (Q_move rfl) ?_
  refine Lq (Q_move rfl) ?_
  refine L_o rfl rfl rfl (O_call [] [0,1] hhe rfl rfl ?_)
  rintro _ _ ⟨rfl, rfl⟩
  refine JL.norm ?_
  refine Lq ((Q_not rfl).as (v' := .bool true) rfl) ?_
  refine Ln ?_
  refine J_condT rfl ?_
  refine Sr ?_
  refine Lq (Q_assign rfl) ?_
  refine Lq (Q_assign rfl) ?_
  refine Ln ?_
  refine J_ret ?_
  refine seqQ_ret ?_
  exact retQ_ret _ [folC p t hd tl] (.cons (RV_tmp rfl) (.cons (RV_tmp rfl) .nil)) ⟨rfl, rfl⟩ (Ent.refl _)
theorem flog_ok (E : World) (p : Nat) (t : Int) (hd : Nat → Bool) (tl : Nat → Hg) : Does Tryz.prog E 12 [.pointer (some ⟨p, 0, none⟩)] [folC p t hd tl] fun r L => ∃ (k : Nat) (S : SV), k ≤ 64 ∧ (∀ h, h < k → (tl h).told = true) ∧ (k = 64 ∨ (tl k).told = false) ∧ r = S.v ∧ L = [folC p t hd tl, slc tS true S ((List.range k).map fun h => (tl h).first)] := by
 refine Does.of Tryz.func12 rfl Tryz.ntmps12 rfl rfl fun F => ?_
 refine J.norm ?_
 refine Sr ?_
 refine Lq (Q_assign rfl) ?_
 refine Ln ?_
 refine Sr ?_
 refine Lq (Q_assign rfl) ?_
 refine Ln ?_
 refine J_block ?_
 refine J.ent (Ent.mk fun _ _ h => (h.lay_nil tS true : Sat _ _ (slc tS true SV.nil [] :: _))) ?_
 refine J_loop (fun i : Nat × SV => i.1 ≤ 64 ∧ ∀ h, h < i.1 → (tl h).told = true) (fun i => [(0, .pointer (some ⟨p, 0, none⟩)), (3, i.2.v)]) (fun i => [slc tS true i.2 ((List.range i.1).map fun h => (tl h).first), folC p t hd tl, F]) (fun i => 64 - i.1) (0, SV.nil) ⟨by decide, fun h hh => by omega⟩ ⟨rfl, rfl, trivial⟩ (Ent.refl _) ?_
 rintro ⟨k, S⟩ ⟨hk, hall⟩
 dsimp only at hk hall ⊢
 have hto := ftold_ok E p k t hd tl hk
 have hln : ((List.range k).map fun h => (tl h).first).length = k := by simp
 by_cases hc : k < 64 ∧ (tl k).told = true
 ·obtain ⟨h1, h2⟩ := hc
  rw [if_pos h1, h2, show (decide (k < 64) && true) = true by simp [h1]] at hto
  have hst : (List.range (k + 1)).map (fun h => (tl h).first) = (List.range k).map (fun h => (tl h).first) ++ [(tl k).first] := by rw [List.range_succ, List.map_append]; rfl
  refine J_block ?_
  refine Sr ?_
  refine Lq (Q_move rfl) ?_
  refine Lq (Q_move rfl) ?_
  refine Lq ((Q_lenAt 0 rfl rfl).as (v' := .int .i64 (k : Int)) (by rw [hln])) ?_
  refine L_o rfl rfl rfl (O_call [1] [0,2] hto rfl rfl ?_)
  rintro _ _ ⟨rfl, rfl⟩
  refine JL.norm ?_
  refine Lq (Q_move rfl) ?_
  refine Lq (Q_extract (v := str (tl k).first) rfl rfl) ?_
  refine Lq (Q_extract (v := .bool true) rfl rfl) ?_
  refine Lq (Q_assign rfl) ?_
  refine Lq (Q_assign rfl) ?_
  refine Ln ?_
  refine J_seq ?_
  refine Sr ?_
  refine Lq (Q_move rfl) ?_
  refine Lq ((Q_not rfl).as (v' := .bool false) rfl) ?_
  refine Ln ?_
  refine J_condF rfl ?_
  refine J_skip ?_
  refine seqQ_normal ?_
  refine J_region ?_
  refine Lq (Q_move rfl) ?_
  refine Lq (Q_move rfl) ?_
  refine L_o rfl rfl rfl (O_litP (τ := tS) (m := 1) (sz := 1) [(tl k).first] rfl rfl rfl rfl rfl rfl (by decide) (fun U => ?_))
  refine JL.norm ?_
  refine L_o rfl rfl rfl (O_app (τ := tS) 2 rfl (fun w h => h.rd 0 rfl) rfl rfl rfl rfl (by rw [hln, List.length_singleton]; omega) (by decide) (fun S2 => ?_))
  refine JL.norm ?_
  refine Lq (Q_assign rfl) ?_
  refine JL_nil ?_
  refine blockQ_normal ?_
  refine loopQ_normal (k + 1, S2) ⟨h1, ?_⟩ (by show 64 - (k + 1) < 64 - k; omega) ⟨rfl, rfl, trivial⟩ (by dsimp only; rw [hst]; exact Ent.re [2,1,3] rfl)
  intro h hh
  by_cases e : h = k
  ·rw [e]; exact h2
  ·exact hall h (by show h < k; have : h < k + 1 := hh; omega)
 ·have hfin : k = 64 ∨ (tl k).told = false := by
   by_cases h1 : k < 64
   ·right
    cases h2 : (tl k).told with
    | false => rfl
    | true => exact absurd ⟨h1, h2⟩ hc
   ·left; omega
  have hb : (decide (k < 64) && (tl k).told) = false := by
   rcases hfin with rfl | h2
   ·rfl
   ·rw [h2]; simp
  rw [hb] at hto
  refine J_block ?_
  refine Sr ?_
  refine Lq (Q_move rfl) ?_
  refine Lq (Q_move rfl) ?_
  refine Lq ((Q_lenAt 0 rfl rfl).as (v' := .int .i64 (k : Int)) (by rw [hln])) ?_
  refine L_o rfl rfl rfl (O_call [1] [0,2] hto rfl rfl ?_)
  rintro _ _ ⟨rfl, rfl⟩
  refine JL.norm ?_
  refine Lq (Q_move rfl) ?_
  refine Lq (Q_extract (v := str (if k < 64 then (tl k).first else [])) rfl rfl) ?_
  refine Lq (Q_extract (v := .bool false) rfl rfl) ?_
  refine Lq (Q_assign rfl) ?_
  refine Lq (Q_assign rfl) ?_
  refine Ln ?_
  refine J_seq ?_
  refine Sr ?_
  refine Lq (Q_move rfl) ?_
  refine Lq ((Q_not rfl).as (v' := .bool true) rfl) ?_
  refine Ln ?_
  refine J_condT rfl ?_
  refine Sr ?_
  refine Lq (Q_move rfl) ?_
  refine Lq (Q_assign rfl) ?_
  refine Ln ?_
  refine J_ret ?_
  refine seqQ_ret ?_
  refine blockQ_ret ?_
  refine loopQ_ret ?_
  refine blockQ_ret ?_
  exact retQ_ret _ [folC p t hd tl, slc tS true S ((List.range k).map fun h => (tl h).first)] (.cons (RV_tmp rfl) .nil) ⟨k, S, hk, hall, hfin, rfl, rfl⟩ (Ent.re [0,1,2] rfl)
end Go.Proofs
/- One who follows: an answer put. -/
set_option autoImplicit false
namespace Go.Proofs
open Go.SL Go.Proofs.Bt
/-- Does an answer count? -/
structure OkF (hd : Nat → Bool) (f h : Nat) (v : Ky) : Prop where
 lh : h < 64
 lf : 1 ≤ f ∧ f ≤ 7
 lv : v ≠ [] ∧ v.length ≤ 4096
 new : hd (h * 8 + f) = false
attribute [local irreducible] J JL QOp JOp seqQ blockQ loopQ retQ slc cel hex star pur stars Does RV Ent pAt scopeQ
attribute [local irreducible] foL folM mapC bz78 fol0
theorem fputT_ok (E : World) (p f h : Nat) (t : Int) (hd : Nat → Bool) (tl : Nat → Hg) (v : Ky) (hok : OkF hd f h v) (ht : 0 ≤ t ∧ t ≤ 2) (hc : 0 ≤ cntG (tl h) v ∧ cntG (tl h) v ≤ 1000000) : Does Tryz.prog E 11 [.pointer (some ⟨p, 0, none⟩), .int .i64 (f : Int), .int .i64 (h : Int), str v] [folC p t hd tl, folM tl] fun r L => ∃ m : Nat, r = .bool true ∧ L = [folC p t (updB hd (h * 8 + f)) (updG tl h (addG (tl h) m v (t + 1))), folM (updG tl h (addG (tl h) m v (t + 1)))] := by
 obtain ⟨hh, ⟨hf1, hf2⟩, ⟨hv1, hv2⟩, hnew⟩ := hok
 have hhe := fheight_ok E p (h : Int)
 rw [show decide ((0 : Int) ≤ (h : Int) ∧ (h : Int) < 64) = true by apply decide_eq_true; omega] at hhe
 have hadd := fadd_ok E p h t (updB hd (h * 8 + f)) tl v (t + 1) hh hc
 have hload := fo_hd t hd tl (h * 8 + f) (by omega)
 rw [hnew] at hload
 refine Does.of Tryz.func11 rfl Tryz.ntmps11 rfl rfl fun F => ?_
 refine J.norm ?_
 refine Sr ?_
 refine Lq (Q_assign rfl) ?_
 refine Ln ?_
 refine J_seq ?_
 refine Sr ?_
 refine Lq (Q_move rfl) ?_
 refine Lq (Q_move rfl) ?_
 refine L_o rfl rfl rfl (O_call [] [0,1,2] hhe rfl rfl ?_)
 rintro _ _ ⟨rfl, rfl⟩
 refine JL.norm ?_
 refine Lq ((Q_not rfl).as (v' := .bool false) rfl) ?_
 refine Lq (Q_move rfl) ?_
 refine Lq (Q_move rfl) ?_
 refine Lq ((Q_lss rfl rfl).as (v' := .bool false) (congrArg Value.bool (decide_eq_false (by omega)))) ?_
 refine Lq (Q_pickF rfl rfl) ?_
 refine Lq (Q_move rfl) ?_
 refine Lq (Q_move rfl) ?_
 refine Lq ((Q_gtr rfl rfl).as (v' := .bool false) (congrArg Value.bool (decide_eq_false (by omega)))) ?_
 refine Lq (Q_pickF rfl rfl) ?_
 refine Lq (Q_move rfl) ?_
 refine Lq (Q_move rfl) ?_
 refine Lq ((Q_seql rfl rfl).as (v' := .bool false) (congrArg Value.bool (decide_eq_false hv1))) ?_
 refine Lq (Q_pickF rfl rfl) ?_
 refine Lq (Q_move rfl) ?_
 refine Lq (Q_move rfl) ?_
 refine Lq (Q_slen rfl) ?_
 refine Lq ((Q_gtr rfl rfl).as (v' := .bool false) (congrArg Value.bool (decide_eq_false (by omega)))) ?_
 refine Lq (Q_pickF rfl rfl) ?_
 refine Lq (Q_move rfl) ?_
 refine Lq (Q_move rfl) ?_
 refine Lq (Q_move rfl) ?_
 refine Lq (Q_move rfl) ?_
 refine Lq (Q_nilCheck rfl) ?_
 refine Lq (Q_fa0 rfl) ?_
 refine Lq (Q_ia (o' := 1 + h * 8) h rfl rfl rfl hh rfl) ?_
 refine Lq (Q_ia (o' := 1 + (h * 8 + f)) f rfl rfl rfl (by omega) (by omega)) ?_
 refine Lq (Q_ld 0 rfl rfl rfl hload) ?_
 refine Lq (Q_pickF rfl rfl) ?_
 refine Ln ?_
 refine J_condF rfl ?_
 refine J_skip ?_
 refine seqQ_normal ?_
 refine Sr ?_
 refine Lq (Q_move rfl) ?_
 refine Lq (Q_move rfl) ?_
 refine Lq (Q_move rfl) ?_
 refine Lq (Q_nilCheck rfl) ?_
 refine Lq (Q_fa0 rfl) ?_
 refine Lq (Q_ia (o' := 1 + h * 8) h rfl rfl rfl hh rfl) ?_
 refine Lq (Q_ia (o' := 1 + (h * 8 + f)) f rfl rfl rfl (by omega) (by omega)) ?_
 refine L_s rfl rfl (O_st1 0 rfl rfl rfl rfl rfl (hcs := ⟨fo_setHd t hd tl (h * 8 + f) (by omega), by rw [fo_len]; omega⟩) ?_)
 refine JL.norm ?_
 refine Ln ?_
 refine J_seq ?_
 obtain ⟨R, e1, e2⟩ := Ent.mapOut (tl := tl) (h := h) hh
 refine J.ent ((Ent.re [1,0,2] rfl).trans ((e1 [folC p t (updB hd (h * 8 + f)) tl, F]).trans (Ent.re [2,0,1,3] rfl))) ?_
 refine DH [0] [0,1,2,3,4,5,6,7,8,9,10] (.quiet 0 (.quiet 1 (.quiet 2 (.quiet 3 (.quiet 4 (.quiet 5 (.quiet 6 (.quiet 7 (.quiet 8 (.quiet 9 (.quiet 10 (.loud 11 .done)))))))))))) Tryz.mixed ?_
 refine Sq (Ent.re [0] rfl) rfl (Q_move rfl) ?_
 refine Sq (Ent.re [0] rfl) rfl (Q_move rfl) ?_
 refine Sq (Ent.re [0] rfl) rfl (Q_nilCheck rfl) ?_
 refine Sq (Ent.re [0] rfl) rfl (Q_fa0 rfl) ?_
 refine Sq (Ent.re [0] rfl) rfl (Q_ia (o' := 513 + 3 * h) h rfl rfl rfl hh (by omega)) ?_
 refine Sq (Ent.re [0] rfl) rfl (Q_move rfl) ?_
 refine Sq (Ent.re [0] rfl) rfl (Q_move rfl) ?_
 refine Sq (Ent.re [0] rfl) rfl (Q_nilCheck rfl) ?_
 refine Sq (Ent.re [0] rfl) rfl (Q_fa0 rfl) ?_
 refine Sq (Ent.re [0] rfl) rfl (Q_ld 0 rfl rfl rfl (fo_0 t (updB hd (h * 8 + f)) tl)) ?_
 refine Sq (Ent.re [0] rfl) rfl (Q_add (r := t + 1) rfl rfl (IntWalk.i64_in _ (by omega))) ?_
 refine S_o rfl rfl rfl rfl (O_call [0,1] [2,3] hadd rfl rfl ?_)
 (rintro _ _ ⟨m, rfl, rfl⟩; refine ⟨[], free_no (by kernel_rfl), ?_⟩)
 refine JS.norm ?_
 refine S_nil ?_
 refine seqQ_normal ?_
 refine Sr ?_
 refine Lq (Q_assign rfl) ?_
 refine Ln ?_
 refine J_ret ?_
 refine retQ_ret _ [folC p t (updB hd (h * 8 + f)) (updG tl h (addG (tl h) m v (t + 1))), folM (updG tl h (addG (tl h) m v (t + 1)))] (.cons (RV_tmp rfl) .nil) ⟨m, rfl, rfl⟩ ?_
 exact (Ent.re [1,2,0,3] rfl).trans ((e2 (addG (tl h) m v (t + 1)) [folC p t (updB hd (h * 8 + f)) (updG tl h (addG (tl h) m v (t + 1))), F]).trans (Ent.re [1,0,2] rfl))
theorem fputF_ok (E : World) (p : Nat) (f h t : Int) (hd : Nat → Bool) (tl : Nat → Hg) (v : Ky) (hno : ∀ f' h' : Nat, f = (f' : Int) → h = (h' : Int) → ¬ OkF hd f' h' v) : Does Tryz.prog E 11 [.pointer (some ⟨p, 0, none⟩), .int .i64 f, .int .i64 h, str v] [folC p t hd tl] fun r L => r = .bool false ∧ L = [folC p t hd tl] := by
 have hhe := fheight_ok E p h
 by_cases c1 : 0 ≤ h ∧ h < 64
 ·rw [decide_eq_true c1] at hhe
  by_cases c2 : f < 1
  ·refine Does.of Tryz.func11 rfl Tryz.ntmps11 rfl rfl fun F => ?_
   refine J.norm ?_
   refine Sr ?_
   refine Lq (Q_assign rfl) ?_
   refine Ln ?_
   refine J_seq ?_
   refine Sr ?_
   refine Lq (Q_move rfl) ?_
   refine Lq (Q_move rfl) ?_
   refine L_o rfl rfl rfl (O_call [] [0,1] hhe rfl rfl ?_)
   rintro _ _ ⟨rfl, rfl⟩
   refine JL.norm ?_
   refine Lq ((Q_not rfl).as (v' := .bool false) rfl) ?_
   refine Lq (Q_move rfl) ?_
   refine Lq (Q_move rfl) ?_
   refine Lq ((Q_lss rfl rfl).as (v' := .bool true) (congrArg Value.bool (decide_eq_true c2))) ?_
   refine Lq (Q_pickF rfl rfl) ?_
   refine Lq (Q_move rfl) ?_
   refine L_n rfl rfl rfl ?_
   refine L_n rfl rfl rfl ?_
   refine Lq (Q_pickT rfl rfl) ?_
   refine Lq (Q_move rfl) ?_
   refine L_n rfl rfl rfl ?_
   refine L_n rfl rfl rfl ?_
   refine Lq (Q_pickT rfl rfl) ?_
   refine Lq (Q_move rfl) ?_
   refine L_n rfl rfl rfl ?_
   refine L_n rfl rfl rfl ?_
   refine L_n rfl rfl rfl ?_
   refine Lq (Q_pickT rfl rfl) ?_
   refine Lq (Q_move rfl) ?_
   refine L_n rfl rfl rfl ?_
   refine L_n rfl rfl rfl ?_
   refine L_n rfl rfl rfl ?_
   refine L_n rfl rfl rfl ?_
   refine L_n rfl rfl rfl ?_
   refine L_n rfl rfl rfl ?_
   refine L_n rfl rfl rfl ?_
   refine L_n rfl rfl rfl ?_
   refine Lq (Q_pickT rfl rfl) ?_
   refine Ln ?_
   refine J_condT rfl ?_
   refine Sr ?_
   refine Lq (Q_assign rfl) ?_
   refine Ln ?_
   refine J_ret ?_
   refine seqQ_ret ?_
   exact retQ_ret _ [folC p t hd tl] (.cons (RV_tmp rfl) .nil) ⟨rfl, rfl⟩ (Ent.refl _)
  by_cases c3 : f > 7
  ·refine Does.of Tryz.func11 rfl Tryz.ntmps11 rfl rfl fun F => ?_
   refine J.norm ?_
   refine Sr ?_
   refine Lq (Q_assign rfl) ?_
   refine Ln ?_
   refine J_seq ?_
   refine Sr ?_
   refine Lq (Q_move rfl) ?_
   refine Lq (Q_move rfl) ?_
   refine L_o rfl rfl rfl (O_call [] [0,1] hhe rfl rfl ?_)
   rintro _ _ ⟨rfl, rfl⟩
   refine JL.norm ?_
   refine Lq ((Q_not rfl).as (v' := .bool false) rfl) ?_
   refine Lq (Q_move rfl) ?_
   refine Lq (Q_move rfl) ?_
   refine Lq ((Q_lss rfl rfl).as (v' := .bool false) (congrArg Value.bool (decide_eq_false c2))) ?_
   refine Lq (Q_pickF rfl rfl) ?_
   refine Lq (Q_move rfl) ?_
   refine Lq (Q_move rfl) ?_
   refine Lq ((Q_gtr rfl rfl).as (v' := .bool true) (congrArg Value.bool (decide_eq_true c3))) ?_
   refine Lq (Q_pickF rfl rfl) ?_
   refine Lq (Q_move rfl) ?_
   refine L_n rfl rfl rfl ?_
   refine L_n rfl rfl rfl ?_
   refine Lq (Q_pickT rfl rfl) ?_
   refine Lq (Q_move rfl) ?_
   refine L_n rfl rfl rfl ?_
   refine L_n rfl rfl rfl ?_
   refine L_n rfl rfl rfl ?_
   refine Lq (Q_pickT rfl rfl) ?_
   refine Lq (Q_move rfl) ?_
   refine L_n rfl rfl rfl ?_
   refine L_n rfl rfl rfl ?_
   refine L_n rfl rfl rfl ?_
   refine L_n rfl rfl rfl ?_
   refine L_n rfl rfl rfl ?_
   refine L_n rfl rfl rfl ?_
   refine L_n rfl rfl rfl ?_
   refine L_n rfl rfl rfl ?_
   refine Lq (Q_pickT rfl rfl) ?_
   refine Ln ?_
   refine J_condT rfl ?_
   refine Sr ?_
   refine Lq (Q_assign rfl) ?_
   refine Ln ?_
   refine J_ret ?_
   refine seqQ_ret ?_
   exact retQ_ret _ [folC p t hd tl] (.cons (RV_tmp rfl) .nil) ⟨rfl, rfl⟩ (Ent.refl _)
  by_cases c4 : v = []
  ·refine Does.of Tryz.func11 rfl Tryz.ntmps11 rfl rfl fun F => ?_
   refine J.norm ?_
   refine Sr ?_
   refine Lq (Q_assign rfl) ?_
   refine Ln ?_
   refine J_seq ?_
   refine Sr ?_
   refine Lq (Q_move rfl) ?_
   refine Lq (Q_move rfl) ?_
   refine L_o rfl rfl rfl (O_call [] [0,1] hhe rfl rfl ?_)
   rintro _ _ ⟨rfl, rfl⟩
   refine JL.norm ?_
   refine Lq ((Q_not rfl).as (v' := .bool false) rfl) ?_
   refine Lq (Q_move rfl) ?_
   refine Lq (Q_move rfl) ?_
   refine Lq ((Q_lss rfl rfl).as (v' := .bool false) (congrArg Value.bool (decide_eq_false c2))) ?_
   refine Lq (Q_pickF rfl rfl) ?_
   refine Lq (Q_move rfl) ?_
   refine Lq (Q_move rfl) ?_
   refine Lq ((Q_gtr rfl rfl).as (v' := .bool false) (congrArg Value.bool (decide_eq_false c3))) ?_
   refine Lq (Q_pickF rfl rfl) ?_
   refine Lq (Q_move rfl) ?_
   refine Lq (Q_move rfl) ?_
   refine Lq ((Q_seql rfl rfl).as (v' := .bool true) (congrArg Value.bool (decide_eq_true c4))) ?_
   refine Lq (Q_pickF rfl rfl) ?_
   refine Lq (Q_move rfl) ?_
   refine L_n rfl rfl rfl ?_
   refine L_n rfl rfl rfl ?_
   refine L_n rfl rfl rfl ?_
   refine Lq (Q_pickT rfl rfl) ?_
   refine Lq (Q_move rfl) ?_
   refine L_n rfl rfl rfl ?_
   refine L_n rfl rfl rfl ?_
   refine L_n rfl rfl rfl ?_
   refine L_n rfl rfl rfl ?_
   refine L_n rfl rfl rfl ?_
   refine L_n rfl rfl rfl ?_
   refine L_n rfl rfl rfl ?_
   refine L_n rfl rfl rfl ?_
   refine Lq (Q_pickT rfl rfl) ?_
   refine Ln ?_
   refine J_condT rfl ?_
   refine Sr ?_
   refine Lq (Q_assign rfl) ?_
   refine Ln ?_
   refine J_ret ?_
   refine seqQ_ret ?_
   exact retQ_ret _ [folC p t hd tl] (.cons (RV_tmp rfl) .nil) ⟨rfl, rfl⟩ (Ent.refl _)
  by_cases c5 : 4096 < v.length
  ·refine Does.of Tryz.func11 rfl Tryz.ntmps11 rfl rfl fun F => ?_
   refine J.norm ?_
   refine Sr ?_
   refine Lq (Q_assign rfl) ?_
   refine Ln ?_
   refine J_seq ?_
   refine Sr ?_
   refine Lq (Q_move rfl) ?_
   refine Lq (Q_move rfl) ?_
   refine L_o rfl rfl rfl (O_call [] [0,1] hhe rfl rfl ?_)
   rintro _ _ ⟨rfl, rfl⟩
   refine JL.norm ?_
   refine Lq ((Q_not rfl).as (v' := .bool false) rfl) ?_
   refine Lq (Q_move rfl) ?_
   refine Lq (Q_move rfl) ?_
   refine Lq ((Q_lss rfl rfl).as (v' := .bool false) (congrArg Value.bool (decide_eq_false c2))) ?_
   refine Lq (Q_pickF rfl rfl) ?_
   refine Lq (Q_move rfl) ?_
   refine Lq (Q_move rfl) ?_
   refine Lq ((Q_gtr rfl rfl).as (v' := .bool false) (congrArg Value.bool (decide_eq_false c3))) ?_
   refine Lq (Q_pickF rfl rfl) ?_
   refine Lq (Q_move rfl) ?_
   refine Lq (Q_move rfl) ?_
   refine Lq ((Q_seql rfl rfl).as (v' := .bool false) (congrArg Value.bool (decide_eq_false c4))) ?_
   refine Lq (Q_pickF rfl rfl) ?_
   refine Lq (Q_move rfl) ?_
   refine Lq (Q_move rfl) ?_
   refine Lq (Q_slen rfl) ?_
   refine Lq ((Q_gtr rfl rfl).as (v' := .bool true) (congrArg Value.bool (decide_eq_true (by omega)))) ?_
   refine Lq (Q_pickF rfl rfl) ?_
   refine Lq (Q_move rfl) ?_
   refine L_n rfl rfl rfl ?_
   refine L_n rfl rfl rfl ?_
   refine L_n rfl rfl rfl ?_
   refine L_n rfl rfl rfl ?_
   refine L_n rfl rfl rfl ?_
   refine L_n rfl rfl rfl ?_
   refine L_n rfl rfl rfl ?_
   refine L_n rfl rfl rfl ?_
   refine Lq (Q_pickT rfl rfl) ?_
   refine Ln ?_
   refine J_condT rfl ?_
   refine Sr ?_
   refine Lq (Q_assign rfl) ?_
   refine Ln ?_
   refine J_ret ?_
   refine seqQ_ret ?_
   exact retQ_ret _ [folC p t hd tl] (.cons (RV_tmp rfl) .nil) ⟨rfl, rfl⟩ (Ent.refl _)
  obtain ⟨f', rfl⟩ : ∃ f' : Nat, f = (f' : Int) := ⟨f.toNat, by omega⟩
  obtain ⟨h', rfl⟩ : ∃ h' : Nat, h = (h' : Int) := ⟨h.toNat, by omega⟩
  have hload := fo_hd t hd tl (h' * 8 + f') (by omega)
  have hb : hd (h' * 8 + f') = true := by
   cases e : hd (h' * 8 + f') with
   | true => rfl
   | false => exact absurd ⟨by omega, ⟨by omega, by omega⟩, ⟨c4, by omega⟩, e⟩ (hno f' h' rfl rfl)
  rw [hb] at hload
  refine Does.of Tryz.func11 rfl Tryz.ntmps11 rfl rfl fun F => ?_
  refine J.norm ?_
  refine Sr ?_
  refine Lq (Q_assign rfl) ?_
  refine Ln ?_
  refine J_seq ?_
  refine Sr ?_
  refine Lq (Q_move rfl) ?_
  refine Lq (Q_move rfl) ?_
  refine L_o rfl rfl rfl (O_call [] [0,1] hhe rfl rfl ?_)
  rintro _ _ ⟨rfl, rfl⟩
  refine JL.norm ?_
  refine Lq ((Q_not rfl).as (v' := .bool false) rfl) ?_
  refine Lq (Q_move rfl) ?_
  refine Lq (Q_move rfl) ?_
  refine Lq ((Q_lss rfl rfl).as (v' := .bool false) (congrArg Value.bool (decide_eq_false c2))) ?_
  refine Lq (Q_pickF rfl rfl) ?_
  refine Lq (Q_move rfl) ?_
  refine Lq (Q_move rfl) ?_
  refine Lq ((Q_gtr rfl rfl).as (v' := .bool false) (congrArg Value.bool (decide_eq_false c3))) ?_
  refine Lq (Q_pickF rfl rfl) ?_
  refine Lq (Q_move rfl) ?_
  refine Lq (Q_move rfl) ?_
  refine Lq ((Q_seql rfl rfl).as (v' := .bool false) (congrArg Value.bool (decide_eq_false c4))) ?_
  refine Lq (Q_pickF rfl rfl) ?_
  refine Lq (Q_move rfl) ?_
  refine Lq (Q_move rfl) ?_
  refine Lq (Q_slen rfl) ?_
  refine Lq ((Q_gtr rfl rfl).as (v' := .bool false) (congrArg Value.bool (decide_eq_false (by omega)))) ?_
  refine Lq (Q_pickF rfl rfl) ?_
  refine Lq (Q_move rfl) ?_
  refine Lq (Q_move rfl) ?_
  refine Lq (Q_move rfl) ?_
  refine Lq (Q_move rfl) ?_
  refine Lq (Q_nilCheck rfl) ?_
  refine Lq (Q_fa0 rfl) ?_
  refine Lq (Q_ia (o' := 1 + h' * 8) h' rfl rfl rfl (by omega) rfl) ?_
  refine Lq (Q_ia (o' := 1 + (h' * 8 + f')) f' rfl rfl rfl (by omega) (by omega)) ?_
  refine Lq (Q_ld 0 rfl rfl rfl hload) ?_
  refine Lq (Q_pickF rfl rfl) ?_
  refine Ln ?_
  refine J_condT rfl ?_
  refine Sr ?_
  refine Lq (Q_assign rfl) ?_
  refine Ln ?_
  refine J_ret ?_
  refine seqQ_ret ?_
  exact retQ_ret _ [folC p t hd tl] (.cons (RV_tmp rfl) .nil) ⟨rfl, rfl⟩ (Ent.refl _)
 ·rw [decide_eq_false c1] at hhe
  refine Does.of Tryz.func11 rfl Tryz.ntmps11 rfl rfl fun F => ?_
  refine J.norm ?_
  refine Sr ?_
  refine Lq (Q_assign rfl) ?_
  refine Ln ?_
  refine J_seq ?_
  refine Sr ?_
  refine Lq (Q_move rfl) ?_
  refine Lq (Q_move rfl) ?_
  refine L_o rfl rfl rfl (O_call [] [0,1] hhe rfl rfl ?_)
  rintro _ _ ⟨rfl, rfl⟩
  refine JL.norm ?_
  refine Lq ((Q_not rfl).as (v' := .bool true) rfl) ?_
  refine Lq (Q_move rfl) ?_
  refine L_n rfl rfl rfl ?_
  refine L_n rfl rfl rfl ?_
  refine Lq (Q_pickT rfl rfl) ?_
  refine Lq (Q_move rfl) ?_
  refine L_n rfl rfl rfl ?_
  refine L_n rfl rfl rfl ?_
  refine Lq (Q_pickT rfl rfl) ?_
  refine Lq (Q_move rfl) ?_
  refine L_n rfl rfl rfl ?_
  refine L_n rfl rfl rfl ?_
  refine Lq (Q_pickT rfl rfl) ?_
  refine Lq (Q_move rfl) ?_
  refine L_n rfl rfl rfl ?_
  refine L_n rfl rfl rfl ?_
  refine L_n rfl rfl rfl ?_
  refine Lq (Q_pickT rfl rfl) ?_
  refine Lq (Q_move rfl) ?_
  refine L_n rfl rfl rfl ?_
  refine L_n rfl rfl rfl ?_
  refine L_n rfl rfl rfl ?_
  refine L_n rfl rfl rfl ?_
  refine L_n rfl rfl rfl ?_
  refine L_n rfl rfl rfl ?_
  refine L_n rfl rfl rfl ?_
  refine L_n rfl rfl rfl ?_
  refine Lq (Q_pickT rfl rfl) ?_
  refine Ln ?_
  refine J_condT rfl ?_
  refine Sr ?_
  refine Lq (Q_assign rfl) ?_
  refine Ln ?_
  refine J_ret ?_
  refine seqQ_ret ?_
  exact retQ_ret _ [folC p t hd tl] (.cons (RV_tmp rfl) .nil) ⟨rfl, rfl⟩ (Ent.refl _)
end Go.Proofs
/- The document's numbers, sums and texts, walked. -/
set_option autoImplicit false
namespace Go.Proofs
open Go.SL
attribute [local irreducible] J JL QOp JOp seqQ blockQ loopQ retQ slc cel hex star pur stars Does RV Ent pAt
end Go.Proofs
/- The document's reading of texts. -/
set_option autoImplicit false
namespace Go.Proofs
open Go.SL
attribute [local irreducible] J JL QOp JOp seqQ blockQ loopQ retQ slc cel hex star pur stars Does RV Ent pAt
end Go.Proofs
/- Pairs packed, walked. -/
set_option autoImplicit false
namespace Go.Proofs
open Go.SL
attribute [local irreducible] J JL QOp JOp seqQ blockQ loopQ retQ slc cel hex star pur stars Does RV Ent pAt
abbrev Pr := List UInt8 × List UInt8
def tP : Ty Pr := ⟨111, 2, fun p => [str p.1, str p.2], fun _ => rfl, by decide, fun a v hv => by simp at hv; rcases hv with rfl | rfl <;> rfl⟩
instance : TyI Tryz.prog tP.e 2 (.agg #[.string ⟨#[]⟩, .string ⟨#[]⟩]) 32 := inferInstanceAs (TyI Tryz.prog 111 2 (.agg #[.string ⟨#[]⟩, .string ⟨#[]⟩]) 32)
instance : TyU Tryz.prog 54 (.slice tP.e) := inferInstanceAs (TyU Tryz.prog 54 (.slice 111))
def flat (l : List Pr) : List (List UInt8) := l.flatMap fun p => [p.1, p.2]
theorem flat_length (l : List Pr) : (flat l).length = 2 * l.length := by
 induction l with
 | nil => rfl
 | cons p l ih => simp only [flat, List.flatMap_cons, List.length_append, List.length_cons, List.length_nil] at *; omega
end Go.Proofs
/- What is done to the slots, as one chunk; a number in four bytes; pairs as the slots have them. -/
set_option autoImplicit false
namespace Go.Proofs
open Go.SL Go.Proofs.Bt
def toPr (l : List Kv) : List Pr := l.map fun x => (x.key, x.val)
theorem flat_toPr (l : List Kv) : tP.flat (toPr l) = tKv.flat l := by
 induction l with
 | nil => rfl
 | cons x l ih =>
  have h1 : toPr (x :: l) = (x.key, x.val) :: toPr l := rfl
  rw [h1]
  simp only [Ty.flat, List.flatMap_cons] at ih ⊢
  rw [ih]; rfl
theorem slc_toPr (full : Bool) (S : SV) (l : List Kv) : slc tKv full S l = slc tP full S (toPr l) := by
 funext E h
 unfold slc
 rw [flat_toPr, show (toPr l).length = l.length from List.length_map ..]
 rfl
attribute [local irreducible] J JL QOp JOp seqQ blockQ loopQ retQ slc cel hex star pur stars Does RV Ent pAt scopeQ
attribute [local irreducible] nodeA nodeX treeA segA snapA
theorem sload_ok (E : World) (p : Nat) (a b : List UInt8) (ha : a.length ≤ 100000) (hb : b.length ≤ 100000) :
 Does Tryz.prog E 44 [.pointer (some ⟨p, 0, none⟩)] [snapA p a b] fun v L => v = .tuple #[str (loadT a b), .int .i64 (loadN a b : Int)] ∧ L = [snapA p a b] := by
 refine Does.snap fun S T => ?_
 refine Does.post (load_ok E p S T a b ha hb) (fun F => Ent.refl _) ?_
 rintro v L ⟨hv, rfl⟩
 exact ⟨_, ⟨hv, rfl⟩, fun F => Ent.snap⟩
end Go.Proofs
/- Pairs packed by the document, walked. -/
set_option autoImplicit false
namespace Go.Proofs
open Go.SL
attribute [local irreducible] J JL QOp JOp seqQ blockQ loopQ retQ slc cel hex star pur stars Does RV Ent pAt
end Go.Proofs
/- Pairs unpacked, in plain Lean. -/
set_option autoImplicit false
namespace Go.Proofs
open Go.SL
def badK (prev : Option (List UInt8)) (k : List UInt8) : Bool := match prev with
 | none => false
 | some q => !(Op.bytesLess q k)
def unp : Option (List UInt8) → List (List UInt8) → Option (List Pr)
 | _, [] => some []
 | _, [_] => none
 | prev, k :: v :: r => if badK prev k = true then none else (unp (some k) r).map ((k, v) :: ·)
def unpT (s : List UInt8) : Option (List Pr) := (readT s).bind (unp none)
def unpL (s : List UInt8) : List Pr := (unpT s).getD []
def unpE (s : List UInt8) : Int := if (unpT s).isNone then 3 else 0
theorem unp_odd (n : Nat) : ∀ (p : Option (List UInt8)) (l : List (List UInt8)), l.length ≤ n → l.length % 2 = 1 → unp p l = none := by
 induction n with
 | zero => intro p l h1 h2; omega
 | succ n ih =>
  intro p l h1 h2
  match l, h1, h2 with
  | [_], _, _ => rfl
  | k :: v :: r, h1, h2 =>
   simp only [List.length_cons] at h1 h2
   simp only [unp]
   rw [ih _ r (by omega) (by omega)]
   simp
theorem unpT_none {s : List UInt8} (h : readT s = none) : unpT s = none := by unfold unpT; rw [h]; rfl
theorem unpT_some {s : List UInt8} {l : List (List UInt8)} (h : readT s = some l) : unpT s = unp none l := by unfold unpT; rw [h]; rfl
theorem readT_len (n : Nat) : ∀ (s : List UInt8) (l : List (List UInt8)), s.length ≤ n → readT s = some l → l.length ≤ s.length := by
 induction n with
 | zero => intro s l h1 h2; obtain rfl : s = [] := List.eq_nil_of_length_eq_zero (by omega); rw [readT_nil] at h2; cases h2; simp
 | succ n ih =>
  intro s l h1 h2
  by_cases hs : s = []
  ·subst hs; rw [readT_nil] at h2; cases h2; simp
  ·cases hx : nextT s with
   | none => rw [readT_none hs hx] at h2; cases h2
   | some tr =>
    obtain ⟨t, r⟩ := tr
    rw [readT_some hs hx] at h2
    have := nextT_lt hx
    cases hr : readT r with
    | none => rw [hr] at h2; cases h2
    | some l' =>
     rw [hr] at h2
     cases h2
     have := ih r l' (by omega) hr
     simp only [List.length_cons]; omega
theorem readL_len (s : List UInt8) : (readL s).length ≤ s.length := by
 unfold readL
 cases h : readT s with
 | none => simp
 | some l => exact readT_len _ s l (Nat.le_refl _) h
def lastK (out : List Pr) : Option (List UInt8) := out.getLast?.map (·.1)
theorem lastK_snoc (out : List Pr) (p : Pr) : lastK (out ++ [p]) = some p.1 := by simp [lastK]
theorem lastK_at (out : List Pr) (j : Nat) (h : out.length = j + 1) : lastK out = some (out[j]'(by omega)).1 := by
 unfold lastK
 rw [List.getLast?_eq_getElem?, show out.length - 1 = j by omega, List.getElem?_eq_getElem (by omega)]; rfl
end Go.Proofs
/- Pairs unpacked, walked. -/
set_option autoImplicit false
namespace Go.Proofs
open Go.SL
attribute [local irreducible] J JL QOp JOp seqQ blockQ loopQ retQ slc cel hex star pur stars Does RV Ent pAt
theorem unpack_ok (E : World) (s : List UInt8) (hs : s.length ≤ 100000000) : Does Tryz.prog E 77 [str s] [] fun v L => ∃ S : SV, v = .tuple #[S.v, .int .i64 (unpE s)] ∧ L = [slc tP true S (unpL s)] := by
 refine Does.of Tryz.func77 rfl Tryz.ntmps77 rfl rfl fun F => ?_
 refine J.norm ?_
 refine Sr ?_
 refine Lq (Q_assign rfl) ?_
 refine Lq (Q_assign rfl) ?_
 refine Ln ?_
 refine Sr ?_
 refine Lq (Q_move rfl) ?_
 refine L_o rfl rfl rfl (O_call [] [0] (wread_ok E s hs) rfl rfl ?_)
 rintro _ _ ⟨T, rfl, rfl⟩
 refine JL.norm ?_
 refine Lq (Q_move rfl) ?_
 refine Lq (Q_extract (v := T.v) rfl rfl) ?_
 refine Lq (Q_extract (v := .int .i64 (readE s)) rfl rfl) ?_
 refine Lq (Q_assign rfl) ?_
 refine Lq (Q_assign rfl) ?_
 refine Ln ?_
 refine J_seq ?_
 refine J_seq ?_
 have hlen := readL_len s
 cases hx : readT s with
 | none =>
  have e1 : readE s = 3 := by unfold readE; rw [hx]; rfl
  have e2 : unpE s = 3 := by unfold unpE; rw [unpT_none hx]; rfl
  have e3 : unpL s = [] := by unfold unpL; rw [unpT_none hx]; rfl
  rw [e1, e2, e3]
  refine J_region ?_
  refine Lq (Q_move rfl) ?_
  refine Lq ((Q_neq rfl rfl).as (v' := .bool true) rfl) ?_
  refine Lq (Q_move rfl) ?_
  refine L_n rfl rfl rfl ?_
  refine L_n rfl rfl rfl ?_
  refine L_n rfl rfl rfl ?_
  refine L_n rfl rfl rfl ?_
  refine Lq (Q_pickT rfl rfl) ?_
  refine Ln ?_
  refine J_condT rfl ?_
  refine Sr ?_
  refine Lq (Q_assign rfl) ?_
  refine Lq (Q_assign rfl) ?_
  refine Ln ?_
  refine J_ret ?_
  refine seqQ_ret ?_
  refine retQ_ret _ [slc tP true SV.nil []] (.cons (RV_tmp rfl) (.cons (RV_tmp rfl) .nil)) ⟨SV.nil, rfl, rfl⟩ ?_
  exact (Ent.mk fun _ _ h => (h.lay_nil tP true : Sat _ _ (slc tP true SV.nil [] :: _))).trans (Ent.re [0,2] rfl)
 | some t0 =>
  have e1 : readE s = 0 := by unfold readE; rw [hx]; rfl
  have e4 : readL s = t0 := by unfold readL; rw [hx]; rfl
  rw [e1, e4] 
  rw [e4] at hlen
  refine J_region ?_
  refine Lq (Q_move rfl) ?_
  refine Lq ((Q_neq rfl rfl).as (v' := .bool false) rfl) ?_
  refine Lq (Q_move rfl) ?_
  refine Lq (Q_move rfl) ?_
  refine Lq (Q_lenAt 0 rfl rfl) ?_
  refine Lq (Q_rem rfl rfl (by decide) (by first | exact IntWalk.rem_in _ _ (by omega) | rfl)) ?_
  refine Lq (Q_eql rfl rfl) ?_
  refine Lq (Q_pickF rfl rfl) ?_
  refine Ln ?_
  refine J_condD rfl (fun h => ?_) (fun h => ?_)
  ·have ho : t0.length % 2 = 1 := by omega
   have e5 : unpT s = none := by rw [unpT_some hx]; exact unp_odd _ _ _ (Nat.le_refl _) ho
   have e2 : unpE s = 3 := by unfold unpE; rw [e5]; rfl
   have e3 : unpL s = [] := by unfold unpL; rw [e5]; rfl
   rw [e2, e3]
   refine Sr ?_
   refine Lq (Q_assign rfl) ?_
   refine Lq (Q_assign rfl) ?_
   refine Ln ?_
   refine J_ret ?_
   refine seqQ_ret ?_
   refine retQ_ret _ [slc tP true SV.nil []] (.cons (RV_tmp rfl) (.cons (RV_tmp rfl) .nil)) ⟨SV.nil, rfl, rfl⟩ ?_
   exact (Ent.mk fun _ _ h => (h.lay_nil tP true : Sat _ _ (slc tP true SV.nil [] :: _))).trans (Ent.re [0,2] rfl)
  have ho : t0.length % 2 = 0 := by omega
  refine J_skip ?_
  refine seqQ_normal ?_
  refine Sr ?_
  refine Lq (Q_assign rfl) ?_
  refine Ln ?_
  refine J_seq ?_
  refine J_block ?_
  refine J.ent (Ent.mk fun _ _ h => (h.lay_nil tP true : Sat _ _ (slc tP true SV.nil [] :: _))) ?_
  refine J_loop (fun i : List Pr × SV × List (List UInt8) × SV => unp none t0 = (unp (lastK i.1) i.2.2.1).map (i.1 ++ ·) ∧ i.2.2.1.length % 2 = 0 ∧ 2 * i.1.length + i.2.2.1.length = t0.length) (fun i => [(4, i.2.2.2.v), (6, i.2.1.v)])
   (fun i => [slc tP true i.2.1 i.1, slc tS true i.2.2.2 i.2.2.1, F]) (fun i => i.2.2.1.length) ([], SV.nil, t0, T) ⟨by simp [lastK], ho, by simp⟩ ⟨rfl, rfl, trivial⟩ (Ent.refl _) ?_
  rintro ⟨out, B, t, U⟩ ⟨h1, h2, h3⟩
  dsimp only at h1 h2 h3 ⊢
  refine J_seq ?_
  refine Sr ?_
  refine Lq (Q_move rfl) ?_
  refine Lq (Q_lenAt 1 rfl rfl) ?_
  refine Lq (Q_gtr rfl rfl) ?_
  refine Ln ?_
  refine J_condD rfl (fun h4 => ?_) (fun h4 => ?_)
  ·obtain ⟨k, v, r, rfl⟩ : ∃ k v r, t = k :: v :: r := by
    match t, h2, h4 with
    | k :: v :: r, _, _ => exact ⟨k, v, r, rfl⟩
   refine J_skip ?_
   refine seqQ_normal ?_
   refine J_seq ?_
   refine J_block ?_
   refine J_seq ?_
   refine Sr ?_
   refine Lq (Q_move rfl) ?_
   refine Lq (Q_lenAt 0 rfl rfl) ?_
   refine Lq (Q_assign rfl) ?_
   refine Ln ?_
   refine J_seq ?_
   cases hb : badK (lastK out) k with
   | true =>
    have e5 : unpT s = none := by rw [unpT_some hx, h1]; simp [unp, hb]
    have e2 : unpE s = 3 := by unfold unpE; rw [e5]; rfl
    have e3 : unpL s = [] := by unfold unpL; rw [e5]; rfl
    rw [e2, e3]
    match hout : out.length with
    | 0 => rw [List.eq_nil_of_length_eq_zero hout] at hb; cases hb
    | j + 1 =>
     have hj : j < out.length := by omega
     have hl := lastK_at out j hout
     have hc : Op.bytesLess out[j].1 k = false := by rw [hl] at hb; simpa [badK] using hb
     refine DH [0,1] [0,1,2,3,4,5,6,7,8,9,10,11,12,13] (.quiet 0 (.quiet 1 (.quiet 2 (.quiet 3 (.quiet 4 (.quiet 5 (.quiet 6 (.quiet 7 (.quiet 8 (.quiet 9 (.quiet 10 (.quiet 11 (.quiet 12 (.quiet 13 .done)))))))))))))) Tryz.mixed ?_
     refine Sq (Ent.re [0,1] rfl) rfl (Q_move rfl) ?_
     refine Sq (Ent.re [0,1] rfl) rfl ((Q_gtr rfl rfl).as (v' := .bool true) (congrArg Value.bool (decide_eq_true (by omega)))) ?_
     refine Sq (Ent.re [0,1] rfl) rfl (Q_move rfl) ?_
     refine Sq (Ent.re [0,1] rfl) rfl (Q_move rfl) ?_
     refine Sq (Ent.re [0,1] rfl) rfl (Q_move rfl) ?_
     refine Sq (Ent.re [0,1] rfl) rfl (Q_sub rfl rfl (by first | exact IntWalk.i64_in _ (by omega) | exact IntWalk.u8_in _ (by omega) | exact IntWalk.u32_in _ (by omega) | exact IntWalk.u64_in _ (by omega) | rfl)) ?_
     refine Sq (Ent.re [0,1] rfl) rfl (Q_ixAt 0 j rfl rfl rfl (by omega) hj rfl) ?_
     refine Sq (Ent.re [0,1] rfl) rfl (Q_pfa rfl) ?_
     refine Sq (Ent.re [0,1] rfl) rfl (Q_ldEAt 0 j 0 (v := str out[j].1) rfl rfl rfl rfl hj (by decide) rfl) ?_
     refine Sq (Ent.re [0,1] rfl) rfl (Q_move rfl) ?_
     refine Sq (Ent.re [0,1] rfl) rfl (Q_ixAt 1 0 rfl rfl rfl rfl (by simp) rfl) ?_
     refine Sq (Ent.re [0,1] rfl) rfl (Q_ldEAt 1 0 0 (v := str k) rfl rfl rfl rfl (by simp) (by decide) rfl) ?_
     refine Sq (Ent.re [0,1] rfl) rfl ((Q_sgeq rfl rfl).as (v' := .bool true) (by rw [hc]; rfl)) ?_
     refine Sq (Ent.re [0,1] rfl) rfl (Q_pickT rfl rfl) ?_
     refine S_nil ?_
     refine seqQ_normal ?_
     refine J_condT rfl ?_
     refine Sr ?_
     refine Lq (Q_assign rfl) ?_
     refine Lq (Q_assign rfl) ?_
     refine Ln ?_
     refine J_ret ?_
     refine seqQ_ret ?_
     refine blockQ_ret ?_
     refine seqQ_ret ?_
     refine loopQ_ret ?_
     refine blockQ_ret ?_
     refine seqQ_ret ?_
     refine retQ_ret _ [slc tP true SV.nil []] (.cons (RV_tmp rfl) (.cons (RV_tmp rfl) .nil)) ⟨SV.nil, rfl, rfl⟩ ?_
     exact (Ent.mk fun _ _ h => (h.lay_nil tP true : Sat _ _ (slc tP true SV.nil [] :: _))).trans (Ent.re [0,3] rfl)
   | false =>
    have h5 : unp none t0 = (unp (lastK (out ++ [(k, v)])) r).map (out ++ [(k, v)] ++ ·) := by
     rw [h1, lastK_snoc]
     simp only [unp, hb, Bool.false_eq_true, if_false]
     cases unp (some k) r <;> simp
    simp only [List.length_cons] at h2 h3
    match hout : out.length with
    | 0 =>
     refine DH [0,1] [0,1,2,3,4,5,6,7,8,9,10,11,12,13] (.quiet 0 (.quiet 1 (.quiet 2 (.quiet 3 (.quiet 4 (.quiet 5 (.quiet 6 (.quiet 7 (.quiet 8 (.quiet 9 (.quiet 10 (.quiet 11 (.quiet 12 (.quiet 13 .done)))))))))))))) Tryz.mixed ?_
     refine Sq (Ent.re [0,1] rfl) rfl (Q_move rfl) ?_
     refine Sq (Ent.re [0,1] rfl) rfl ((Q_gtr rfl rfl).as (v' := .bool false) (congrArg Value.bool (decide_eq_false (by omega)))) ?_
     refine Sq (Ent.re [0,1] rfl) rfl (Q_move rfl) ?_
     refine S_n (Ent.re [0,1] rfl) rfl rfl rfl rfl ?_
     refine S_n (Ent.re [0,1] rfl) rfl rfl rfl rfl ?_
     refine S_n (Ent.re [0,1] rfl) rfl rfl rfl rfl ?_
     refine S_n (Ent.re [0,1] rfl) rfl rfl rfl rfl ?_
     refine S_n (Ent.re [0,1] rfl) rfl rfl rfl rfl ?_
     refine S_n (Ent.re [0,1] rfl) rfl rfl rfl rfl ?_
     refine S_n (Ent.re [0,1] rfl) rfl rfl rfl rfl ?_
     refine S_n (Ent.re [0,1] rfl) rfl rfl rfl rfl ?_
     refine S_n (Ent.re [0,1] rfl) rfl rfl rfl rfl ?_
     refine S_n (Ent.re [0,1] rfl) rfl rfl rfl rfl ?_
     refine Sq (Ent.re [0,1] rfl) rfl (Q_pickF rfl rfl) ?_
     refine S_nil ?_
     refine seqQ_normal ?_
     refine J_condF rfl ?_
     refine J_skip ?_
     refine seqQ_normal ?_
     refine DH [1] [0,1,2,3,4,5,6,7,10] (.quiet 0 (.quiet 1 (.quiet 2 (.quiet 3 (.quiet 4 (.quiet 5 (.quiet 6 (.quiet 7 (.loud 8 (.loud 9 (.quiet 10 .done))))))))))) Tryz.mixed ?_
     refine Sq (Ent.re [1] rfl) rfl (Q_move rfl) ?_
     refine Sq (Ent.re [1] rfl) rfl (Q_move rfl) ?_
     refine Sq (Ent.re [1] rfl) rfl (Q_ixAt 0 0 rfl rfl rfl rfl (by simp) rfl) ?_
     refine Sq (Ent.re [1] rfl) rfl (Q_ldEAt 0 0 0 (v := str k) rfl rfl rfl rfl (by simp) (by decide) rfl) ?_
     refine Sq (Ent.re [1] rfl) rfl (Q_move rfl) ?_
     refine Sq (Ent.re [1] rfl) rfl (Q_ixAt 0 1 rfl rfl rfl rfl (by simp) rfl) ?_
     refine Sq (Ent.re [1] rfl) rfl (Q_ldEAt 0 1 0 (v := str v) rfl rfl rfl rfl (by simp) (by decide) rfl) ?_
     refine Sq (Ent.re [1] rfl) rfl (Q_build rfl) ?_
     refine S_o rfl rfl rfl rfl (O_litP (τ := tP) (m := 1) (sz := 2) [(k, v)] rfl rfl rfl rfl rfl rfl (by decide) (fun S1 => ⟨_, fun _ => ⟨Ent.reN [2] rfl, Ent.refl _⟩, ?_⟩))
     refine JS.norm ?_
     refine S_o rfl rfl rfl rfl (O_app (τ := tP) 1 rfl (fun w h => h.rd 0 rfl) rfl rfl rfl rfl (by simp; omega) (by decide) (fun S2 => ⟨_, fun _ => ⟨Ent.reN [2] rfl, Ent.refl _⟩, ?_⟩))
     refine JS.norm ?_
     refine Sq (Ent.re [2] rfl) rfl (Q_assign rfl) ?_
     refine S_nil ?_
     refine blockQ_normal ?_
     refine seqQ_normal ?_
     refine J_region ?_
     refine Lq (Q_move rfl) ?_
     refine Lq (Q_slL (τ := tS) 2 (fun w h => h.rd 2 rfl) rfl rfl rfl (by simp) rfl) ?_
     refine Lq (Q_assign rfl) ?_
     refine JL_nil ?_
     refine loopQ_normal (out ++ [(k, v)], S2, r, U.sub 1 2 (k :: v :: r).length) ⟨h5, by simp only; omega, by simp; omega⟩ (by simp; omega) ⟨rfl, rfl, trivial⟩ ?_
     exact (Ent.sub 2 2 (k :: v :: r).length rfl (by simp) (Nat.le_refl _)).trans (by rw [show ((k :: v :: r).take (k :: v :: r).length).drop 2 = r by simp]; exact Ent.re [1,2,3] rfl)
    | j + 1 =>
     have hj : j < out.length := by omega
     have hl := lastK_at out j hout
     have hc : Op.bytesLess out[j].1 k = true := by rw [hl] at hb; simpa [badK] using hb
     refine DH [0,1] [0,1,2,3,4,5,6,7,8,9,10,11,12,13] (.quiet 0 (.quiet 1 (.quiet 2 (.quiet 3 (.quiet 4 (.quiet 5 (.quiet 6 (.quiet 7 (.quiet 8 (.quiet 9 (.quiet 10 (.quiet 11 (.quiet 12 (.quiet 13 .done)))))))))))))) Tryz.mixed ?_
     refine Sq (Ent.re [0,1] rfl) rfl (Q_move rfl) ?_
     refine Sq (Ent.re [0,1] rfl) rfl ((Q_gtr rfl rfl).as (v' := .bool true) (congrArg Value.bool (decide_eq_true (by omega)))) ?_
     refine Sq (Ent.re [0,1] rfl) rfl (Q_move rfl) ?_
     refine Sq (Ent.re [0,1] rfl) rfl (Q_move rfl) ?_
     refine Sq (Ent.re [0,1] rfl) rfl (Q_move rfl) ?_
     refine Sq (Ent.re [0,1] rfl) rfl (Q_sub rfl rfl (by first | exact IntWalk.i64_in _ (by omega) | exact IntWalk.u8_in _ (by omega) | exact IntWalk.u32_in _ (by omega) | exact IntWalk.u64_in _ (by omega) | rfl)) ?_
     refine Sq (Ent.re [0,1] rfl) rfl (Q_ixAt 0 j rfl rfl rfl (by omega) hj rfl) ?_
     refine Sq (Ent.re [0,1] rfl) rfl (Q_pfa rfl) ?_
     refine Sq (Ent.re [0,1] rfl) rfl (Q_ldEAt 0 j 0 (v := str out[j].1) rfl rfl rfl rfl hj (by decide) rfl) ?_
     refine Sq (Ent.re [0,1] rfl) rfl (Q_move rfl) ?_
     refine Sq (Ent.re [0,1] rfl) rfl (Q_ixAt 1 0 rfl rfl rfl rfl (by simp) rfl) ?_
     refine Sq (Ent.re [0,1] rfl) rfl (Q_ldEAt 1 0 0 (v := str k) rfl rfl rfl rfl (by simp) (by decide) rfl) ?_
     refine Sq (Ent.re [0,1] rfl) rfl ((Q_sgeq rfl rfl).as (v' := .bool false) (by rw [hc]; rfl)) ?_
     refine Sq (Ent.re [0,1] rfl) rfl (Q_pickT rfl rfl) ?_
     refine S_nil ?_
     refine seqQ_normal ?_
     refine J_condF rfl ?_
     refine J_skip ?_
     refine seqQ_normal ?_
     refine DH [1] [0,1,2,3,4,5,6,7,10] (.quiet 0 (.quiet 1 (.quiet 2 (.quiet 3 (.quiet 4 (.quiet 5 (.quiet 6 (.quiet 7 (.loud 8 (.loud 9 (.quiet 10 .done))))))))))) Tryz.mixed ?_
     refine Sq (Ent.re [1] rfl) rfl (Q_move rfl) ?_
     refine Sq (Ent.re [1] rfl) rfl (Q_move rfl) ?_
     refine Sq (Ent.re [1] rfl) rfl (Q_ixAt 0 0 rfl rfl rfl rfl (by simp) rfl) ?_
     refine Sq (Ent.re [1] rfl) rfl (Q_ldEAt 0 0 0 (v := str k) rfl rfl rfl rfl (by simp) (by decide) rfl) ?_
     refine Sq (Ent.re [1] rfl) rfl (Q_move rfl) ?_
     refine Sq (Ent.re [1] rfl) rfl (Q_ixAt 0 1 rfl rfl rfl rfl (by simp) rfl) ?_
     refine Sq (Ent.re [1] rfl) rfl (Q_ldEAt 0 1 0 (v := str v) rfl rfl rfl rfl (by simp) (by decide) rfl) ?_
     refine Sq (Ent.re [1] rfl) rfl (Q_build rfl) ?_
     refine S_o rfl rfl rfl rfl (O_litP (τ := tP) (m := 1) (sz := 2) [(k, v)] rfl rfl rfl rfl rfl rfl (by decide) (fun S1 => ⟨_, fun _ => ⟨Ent.reN [2] rfl, Ent.refl _⟩, ?_⟩))
     refine JS.norm ?_
     refine S_o rfl rfl rfl rfl (O_app (τ := tP) 1 rfl (fun w h => h.rd 0 rfl) rfl rfl rfl rfl (by simp; omega) (by decide) (fun S2 => ⟨_, fun _ => ⟨Ent.reN [2] rfl, Ent.refl _⟩, ?_⟩))
     refine JS.norm ?_
     refine Sq (Ent.re [2] rfl) rfl (Q_assign rfl) ?_
     refine S_nil ?_
     refine blockQ_normal ?_
     refine seqQ_normal ?_
     refine J_region ?_
     refine Lq (Q_move rfl) ?_
     refine Lq (Q_slL (τ := tS) 2 (fun w h => h.rd 2 rfl) rfl rfl rfl (by simp) rfl) ?_
     refine Lq (Q_assign rfl) ?_
     refine JL_nil ?_
     refine loopQ_normal (out ++ [(k, v)], S2, r, U.sub 1 2 (k :: v :: r).length) ⟨h5, by simp only; omega, by simp; omega⟩ (by simp; omega) ⟨rfl, rfl, trivial⟩ ?_
     exact (Ent.sub 2 2 (k :: v :: r).length rfl (by simp) (Nat.le_refl _)).trans (by rw [show ((k :: v :: r).take (k :: v :: r).length).drop 2 = r by simp]; exact Ent.re [1,2,3] rfl)
  ·obtain rfl : t = [] := List.eq_nil_of_length_eq_zero (by omega)
   have e5 : unpT s = some out := by rw [unpT_some hx, h1]; simp [unp]
   have e2 : unpE s = 0 := by unfold unpE; rw [e5]; rfl
   have e3 : unpL s = out := by unfold unpL; rw [e5]; rfl
   rw [e2, e3]
   refine J_exit ?_
   refine seqQ_exit ?_
   refine loopQ_exit ?_
   refine blockQ_hit ?_
   refine seqQ_normal ?_
   refine Sr ?_
   refine Lq (Q_move rfl) ?_
   refine Lq (Q_assign rfl) ?_
   refine Lq (Q_assign rfl) ?_
   refine Ln ?_
   refine J_ret ?_
   exact retQ_ret _ [slc tP true B out] (.cons (RV_tmp rfl) (.cons (RV_tmp rfl) .nil)) ⟨B, rfl, rfl⟩ (Ent.re [0,2] rfl)
end Go.Proofs
/- The document's slots, walked. -/
set_option autoImplicit false
namespace Go.Proofs
open Go.SL
attribute [local irreducible] J JL QOp JOp seqQ blockQ loopQ retQ slc cel hex star pur stars Does RV Ent pAt
end Go.Proofs
/- Which slot the document tells. -/
set_option autoImplicit false
namespace Go.Proofs
open Go.SL
attribute [local irreducible] J JL QOp JOp seqQ blockQ loopQ retQ slc cel hex star pur stars Does RV Ent pAt
end Go.Proofs
/- What the document tells of the slots. -/
set_option autoImplicit false
namespace Go.Proofs
open Go.SL
attribute [local irreducible] J JL QOp JOp seqQ blockQ loopQ retQ slc cel hex star pur stars Does RV Ent pAt
end Go.Proofs
/- The document's write into the slots. -/
set_option autoImplicit false
namespace Go.Proofs
open Go.SL
attribute [local irreducible] J JL QOp JOp seqQ blockQ loopQ retQ slc cel hex star pur stars Does RV Ent pAt
end Go.Proofs
/- A byte of a slot, spoilt. -/
set_option autoImplicit false
namespace Go.Proofs
open Go.SL
attribute [local irreducible] J JL QOp JOp seqQ blockQ loopQ retQ slc cel hex star pur stars Does RV Ent pAt
end Go.Proofs
/- The document's spoilt byte. -/
set_option autoImplicit false
namespace Go.Proofs
open Go.SL
attribute [local irreducible] J JL QOp JOp seqQ blockQ loopQ retQ slc cel hex star pur stars Does RV Ent pAt
end Go.Proofs
