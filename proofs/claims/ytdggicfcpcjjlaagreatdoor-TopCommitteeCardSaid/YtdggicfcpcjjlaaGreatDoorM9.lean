/- Part 9 of the texts below the row: Sl8, Sl9, Sl10. -/
import Derived.KernelRfl
import Derived.Deep.Slices
import Derived.Deep.Fields
import Derived.ChangeSame
import Derived.ChangeArms
import Derived.Below
import Derived.SizedLaws
import Derived.WalkKit
import Derived.ProofKit
import Derived.OpenShut
import Derived.ShutString
import Derived.ChangeOld
import Derived.Test.YtdggicfcpcjjlaaGreatDoorM1
import Derived.Test.YtdggicfcpcjjlaaGreatDoorM8
/- Regions that draw their order, step by step; small words for ends; slices that are written out. -/
set_option autoImplicit false
namespace Go.SL
section
variable {P : Program} {E : World} {n : Nat} {Q : Post} {ρ : Env} {L L' H : List HProp} {o : Oper} {all : List Oper} {quiet : List Nat} {rest : Sched} {i : Nat}
theorem J_drawL {id : Nat} {l : List Oper} (quiet : List Nat) (sched : Sched) (hm : P.follows .mixedOrders = true)
 (hsel : Region.noSelect l.toArray = true) (ho : okSched l.toArray quiet l.toArray.size sched (Array.replicate l.toArray.size false) = true) (hQ : ∀ c ρ L, ¬ Q (.panic c) ρ L)
 (h : JS P E n l quiet Q sched L ρ L) : J P E n (.region id l.toArray true) Q ρ L := J_draw quiet sched L hm hsel ho hQ h
theorem J_drawH {id : Nat} {l : List Oper} {H : List HProp} (idx : List Nat) (quiet : List Nat) (sched : Sched) (hm : P.follows .mixedOrders = true)
 (hsel : Region.noSelect l.toArray = true) (ho : okSched l.toArray quiet l.toArray.size sched (Array.replicate l.toArray.size false) = true) (hQ : ∀ c ρ L, ¬ Q (.panic c) ρ L) [NormL (pick idx L) H]
 (h : JS P E n l quiet Q sched H ρ L) : J P E n (.region id l.toArray true) Q ρ L := J_draw quiet sched H hm hsel ho hQ h
theorem Ent.reN {L L1 L' : List HProp} (idx : List Nat) [g1 : NormL L L1] (hi : okIdx L1.length idx = true) [g : NormL (SL.pick idx L1) L'] : Ent L L' := by rw [g1.h]; exact Ent.re idx hi
theorem Ent.nrm {L L1 : List HProp} [g1 : NormL L L1] : Ent L L1 := by rw [← g1.h]; exact Ent.refl _
theorem S_nil (h : Q .normal ρ L) : JS P E n all quiet Q .done H ρ L := h
theorem S_both {j : Nat} {s : Sched} (h1 : JS P E n all quiet Q (.loud i rest) H ρ L) (h2 : JS P E n all quiet Q (.loud j s) H ρ L) : JS P E n all quiet Q (.both i rest j s) H ρ L := ⟨h1, h2⟩
theorem S_q {d : Tmp} {v : Value} (hH : Ent L H) (ho : all[i]? = some o) (hq : QOp P E n o ρ H v) (hd : o.dst = some d) (hn : Nat.blt d n = true) (hg : guardOk all ρ o true = true) (h : JS P E n all quiet Q rest H ((d, v) :: ρ) L) : JS P E n all quiet Q (.quiet i rest) H ρ L := by
 intro o' ho'
 rw [ho] at ho'
 obtain rfl := Option.some.inj ho'
 refine ⟨v, ?_, by rw [hd]; exact hn, hH, by rw [hd]; exact h⟩
 rcases guardOk_t hg with h1 | ⟨g, b, e, h1, h2, h3⟩
 ·rw [h1]; exact hq
 ·rw [h1]; exact ⟨e, _, h2, h3, by rw [if_pos (show gbOf (.bool b) = some b from rfl)]; exact hq⟩
theorem S_n {d : Tmp} (hH : Ent L H) (ho : all[i]? = some o) (hd : o.dst = some d) (hn : Nat.blt d n = true) (hg : guardOk all ρ o false = true) (h : JS P E n all quiet Q rest H ((d, undef) :: ρ) L) : JS P E n all quiet Q (.quiet i rest) H ρ L := by
 intro o' ho'
 rw [ho] at ho'
 obtain rfl := Option.some.inj ho'
 refine ⟨undef, ?_, by rw [hd]; exact hn, hH, by rw [hd]; exact h⟩
 obtain ⟨g, b, e, u, h1, h2, h3, h4⟩ := guardOk_f hg
 rw [h1]; exact ⟨e, _, h2, h3, by rw [if_neg h4]⟩
/-- A loud operation. -/
theorem S_o {d : Tmp} (ho : all[i]? = some o) (hd : o.dst = some d) (hn : Nat.blt d n = true) (hg : guardOk all ρ o true = true)
 (h : JOp P E n o (fun v L' => ∃ H', (frOf all.toArray quiet i = true → Ent L' H' ∧ Ent H' H) ∧ JS P E n all quiet Q rest H' ((d, v) :: ρ) L') ρ L) : JS P E n all quiet Q (.loud i rest) H ρ L := by
 intro o' ho'
 rw [ho] at ho'
 obtain rfl := Option.some.inj ho'
 refine ⟨by rw [hd]; exact hn, ?_⟩
 rcases guardOk_t hg with h1 | ⟨g, b, e, h1, h2, h3⟩
 ·rw [h1, hd]; exact h
 ·rw [h1]; exact ⟨e, _, h2, h3, by rw [if_pos (show gbOf (.bool b) = some b from rfl), hd]; exact h⟩
theorem S_s (ho : all[i]? = some o) (hd : o.dst = none) (hg : guardOk all ρ o true = true)
 (h : JOp P E n o (fun _ L' => ∃ H', (frOf all.toArray quiet i = true → Ent L' H' ∧ Ent H' H) ∧ JS P E n all quiet Q rest H' ρ L') ρ L) : JS P E n all quiet Q (.loud i rest) H ρ L := by
 intro o' ho'
 rw [ho] at ho'
 obtain rfl := Option.some.inj ho'
 refine ⟨by rw [hd]; rfl, ?_⟩
 rcases guardOk_t hg with h1 | ⟨g, b, e, h1, h2, h3⟩
 ·rw [h1, hd]; exact h
 ·rw [h1]; exact ⟨e, _, h2, h3, by rw [if_pos (show gbOf (.bool b) = some b from rfl), hd]; exact h⟩
theorem S_no {d : Tmp} (ho : all[i]? = some o) (hd : o.dst = some d) (hn : Nat.blt d n = true) (hg : guardOk all ρ o false = true) (hf : frOf all.toArray quiet i = true → Ent L H)
 (h : JS P E n all quiet Q rest H ((d, undef) :: ρ) L) : JS P E n all quiet Q (.loud i rest) H ρ L := by
 intro o' ho'
 rw [ho] at ho'
 obtain rfl := Option.some.inj ho'
 refine ⟨by rw [hd]; exact hn, ?_⟩
 obtain ⟨g, b, e, u, h1, h2, h3, h4⟩ := guardOk_f hg
 rw [h1]; exact ⟨e, _, h2, h3, by rw [if_neg h4, hd]; exact ⟨H, fun hx => ⟨hf hx, fun _ _ h => h⟩, h⟩⟩
theorem JS.norm [g : NormL L L'] (h : JS P E n all quiet Q rest H ρ L') : JS P E n all quiet Q rest H ρ L := by rw [g.h]; exact h
/-- Nothing is quiet behind it. -/
theorem free_no {p : Prop} (h : frOf all.toArray quiet i = false) : frOf all.toArray quiet i = true → p := fun h' => by rw [h] at h'; cases h'
theorem retQ_noP {rs : List ResultVar} {K : Value → List HProp → Prop} {F : HProp} : ∀ c ρ L, ¬ retQ P E n rs K F (.panic c) ρ L := fun _ _ _ h => h
theorem seqQ_noP {c : Code} (h : ∀ c ρ L, ¬ Q (.panic c) ρ L) : ∀ d ρ L, ¬ seqQ P E n c Q (.panic d) ρ L := fun d ρ L h' => h d ρ L h'
theorem blockQ_noP {id : Nat} (h : ∀ c ρ L, ¬ Q (.panic c) ρ L) : ∀ d ρ L, ¬ blockQ id Q (.panic d) ρ L := fun d ρ L h' => h d ρ L h'
theorem loopQ_noP {ι : Type} {I : ι → Prop} {env : ι → Env} {res : ι → List HProp} {μ : ι → Nat} {k : ι} (h : ∀ c ρ L, ¬ Q (.panic c) ρ L) : ∀ d ρ L, ¬ loopQ I env res μ k Q (.panic d) ρ L := fun d ρ L h' => h d ρ L h'
theorem Ent.mk {L L' : List HProp} (h : ∀ E w, Sat E w L → Sat E w L') : Ent L L' := h
theorem Ent.sub {α : Type} {τ : Ty α} {full : Bool} {S : SV} {l : List α} {L L' : List HProp} (i lo hi : Nat) (hL : L[i]? = some (slc τ full S l)) (h1 : lo ≤ hi) (h2 : hi ≤ l.length) [g : NormL (L.set i (slc τ full (S.sub τ.sz lo hi) ((l.take hi).drop lo))) L'] : Ent L L' := fun _ _ h => by
 rw [← g.h]; exact h.sub_at i hL lo hi h1 h2
end
/-! ### Slices written out -/
section
variable {α : Type} {τ : Ty α} {P : Program} {E : World} {n : Nat} {ρ : Env} {L : List HProp} {dst : Option Tmp} {ty : TypeId} {pos : String} {after : Array Edge} {g : Option (Nat × Bool)}
/-- How the parts of a struct or an array lie. -/
class Places (P : Program) (t : Nat) (pl : outParam (List (Nat × Nat))) (zero : outParam (List Value)) : Prop where
 h : ∀ (w : World) (parts : Array (Nat × Value)) (cs : Array Value), Instr.fill (pl.toArray[·]?) zero.toArray parts.toList = some cs → (Instr.build t parts).run P w = .ok (.agg cs) w
theorem Places.of {t sz by_ : Nat} {z : Value} {fs : Array Field} {pl : List (Nat × Nat)} {zero : List Value} (u : P.underlying t = some (.struct fs)) (v : TyI P t sz z by_) (hz : z.cells = zero.toArray)
 (hp : ∀ w, (fs.mapM (m := Sem) fun f => do pure (f.offset, ← sizeOf f.type)).run P w = .ok pl.toArray w) : Places P t pl zero := ⟨fun w parts cs h => by
 obtain ⟨i, hi, _, hz', _⟩ := v.get
 simp only [Instr.build, Sem.run_bind, zeroValue, typeInfo, run_program, Result.andThen_ok, hi, hz', Sem.run_pure, run_underlying u, hp, hz, h]⟩
def partsOf (ρ : Env) : List (Nat × Operand) → Option (List (Nat × Value))
 | [] => some []
 | (i, x) :: r => match ρ.ev x, partsOf ρ r with
  | some v, some vs => some ((i, v) :: vs)
  | _, _ => none
theorem partsOf_eq {a : Act} (ha : Agrees a n ρ) : ∀ {ps : List (Nat × Operand)} {vs : List (Nat × Value)}, partsOf ρ ps = some vs → (ps.map fun (i, x) => (i, a.eval x)) = vs
 | [], vs, h => by simp only [partsOf, Option.some.injEq] at h; subst h; rfl
 | (i, x) :: r, vs, h => by
  simp only [partsOf] at h
  split at h
  ·rename_i v vs' h1 h2
   simp only [Option.some.injEq] at h; subst h
   simp [ha.ev h1, partsOf_eq ha h2]
  ·cases h
theorem foldl_set (cs : List Value) : ∀ (vs : List Value) (o k : Nat), o + k + vs.length ≤ cs.length →
 (vs.toArray.zipIdx k).foldl (fun (a : Array Value) (x : Value × Nat) => a.setIfInBounds (o + x.2) x.1) cs.toArray = (cs.take (o + k) ++ vs ++ cs.drop (o + k + vs.length)).toArray
 | vs, o, k, h => by
  induction vs generalizing k cs with
  | nil =>
   have e : (([] : List Value).toArray.zipIdx k) = #[] := by apply Array.ext'; simp
   rw [e]; simp
  | cons v vs ih =>
   simp only [List.length_cons] at h
   have e : ((v :: vs).toArray.zipIdx k) = #[(v, k)] ++ (vs.toArray.zipIdx (k + 1)) := by
    apply Array.ext'
    simp
   rw [e, Array.foldl_append]
   simp only [List.size_toArray, List.length_cons, List.length_nil, Nat.zero_add, List.foldl_toArray', List.foldl_cons, List.foldl_nil]
   have := ih (cs.set (o + k) v) (k + 1) (by rw [List.length_set]; omega)
   simp only [List.setIfInBounds_toArray] at this ⊢
   rw [this, show o + (k + 1) + vs.length = o + k + (vs.length + 1) by omega, show o + (k + 1) = (o + k) + 1 by omega, take_set_succ cs (o + k) v (by omega), drop_set_lt cs (o + k) _ v (by omega)]
   simp only [List.append_assoc, List.cons_append, List.nil_append]
theorem run_fill (sz : Nat) : ∀ (vs : List Value) (k : Nat) (cs : List Value), (∀ v ∈ vs, v.cells.size = sz) → k * sz + vs.length * sz ≤ cs.length →
 Instr.fill (fun i => some (i * sz, sz)) cs.toArray ((vs.zipIdx k).map fun (v, i) => (i, v)) = some (cs.take (k * sz) ++ (vs.flatMap fun v => v.cells.toList) ++ cs.drop (k * sz + vs.length * sz)).toArray
 | [], k, cs, _, _ => by simp [Instr.fill]
 | v :: vs, k, cs, h1, h2 => by
  have hv := h1 v (by simp)
  simp only [List.length_cons, Nat.add_mul, Nat.one_mul] at h2
  have hl : v.cells.toList.length = sz := by simpa using hv
  simp only [List.zipIdx_cons, List.map_cons, Instr.fill]
  have hc : (v.cells.size ≠ sz || k * sz + v.cells.size > cs.toArray.size) = false := by
   simp [hv]; omega
  rw [hc]
  simp only [Bool.false_eq_true, if_false]
  have hf := foldl_set cs v.cells.toList (k * sz) 0 (by omega)
  simp only [Nat.add_zero, Array.toArray_toList] at hf
  have hf' : (v.cells.zipIdx.foldl (fun (a : Array Value) (x : Value × Nat) => a.setIfInBounds (k * sz + x.2) x.1) cs.toArray) = (cs.take (k * sz) ++ v.cells.toList ++ cs.drop (k * sz + v.cells.toList.length)).toArray := hf
  have hf2 : Array.foldl (fun (cs : Array Value) x => match x with | (c, j) => cs.setIfInBounds (k * sz + j) c) cs.toArray v.cells.zipIdx = (cs.take (k * sz) ++ v.cells.toList ++ cs.drop (k * sz + v.cells.toList.length)).toArray := hf'
  rw [hf2, run_fill sz vs (k + 1) _ (fun u hu => h1 u (by simp [hu])) (by simp [Nat.add_mul]; omega)]
  congr 2
  have e1 : (cs.take (k * sz) ++ v.cells.toList).length = (k + 1) * sz := by simp [Nat.add_mul]; omega
  rw [List.take_left' e1, List.drop_append, e1, List.drop_of_length_le (by rw [e1]; omega), List.nil_append, show (k + 1) * sz + vs.length * sz - (k + 1) * sz = vs.length * sz by omega, List.drop_drop]
  simp only [List.flatMap_cons, List.length_cons, List.append_assoc]
  congr 4
  rw [hl, Nat.add_mul]
  omega
/-- Cells laid over others, written out. -/
class SpliceL (cs : List Value) (o : Nat) (vs : List Value) (cs' : outParam (List Value)) : Prop where
 h : cs.take o ++ vs ++ cs.drop (o + vs.length) = cs'
 le : o + vs.length ≤ cs.length
instance (l : List Value) : SpliceL l 0 [] l := ⟨by simp, by simp⟩
instance (a v : Value) (l vs l' : List Value) [g : SpliceL l 0 vs l'] : SpliceL (a :: l) 0 (v :: vs) (v :: l') := ⟨by have := g.h; simp at this; simp [this], by have := g.le; simp at this ⊢; omega⟩
instance (a : Value) (o : Nat) (l vs l' : List Value) [g : SpliceL l o vs l'] : SpliceL (a :: l) (o + 1) vs (a :: l') := ⟨by rw [← g.h, show o + 1 + vs.length = (o + vs.length) + 1 by omega]; simp, by have := g.le; simp; omega⟩
class FillL (pl : List (Nat × Nat)) (cs : List Value) (vs : List (Nat × Value)) (cs' : outParam (List Value)) : Prop where
 h : Instr.fill (pl.toArray[·]?) cs.toArray vs = some cs'.toArray
instance (pl : List (Nat × Nat)) (cs : List Value) : FillL pl cs [] cs := ⟨rfl⟩
class PlAt (pl : List (Nat × Nat)) (i : Nat) (o : outParam Nat) (s : outParam Nat) : Prop where
 h : pl[i]? = some (o, s)
instance (o s : Nat) (l : List (Nat × Nat)) : PlAt ((o, s) :: l) 0 o s := ⟨rfl⟩
instance (o s i : Nat) (p : Nat × Nat) (l : List (Nat × Nat)) [g : PlAt l i o s] : PlAt (p :: l) (i + 1) o s := ⟨by simpa using g.h⟩
instance (pl : List (Nat × Nat)) (cs cs1 cs2 vcs : List Value) (i o s : Nat) (v : Value) (r : List (Nat × Value)) [p : PlAt pl i o s] [cv : CellsL v vcs] [lv : LenL vcs s] [sp : SpliceL cs o vcs cs1] [f : FillL pl cs1 r cs2] : FillL pl cs ((i, v) :: r) cs2 := ⟨by
 have hp : pl.toArray[i]? = some (o, s) := by simpa using p.h
 have hsz : v.cells.size = s := by rw [← lv.h, ← cv.h]; simp
 have hle := sp.le
 rw [lv.h] at hle
 simp only [Instr.fill, hp]
 have hc : (v.cells.size ≠ s || o + v.cells.size > cs.toArray.size) = false := by simp [hsz]; omega
 rw [hc]
 simp only [Bool.false_eq_true, if_false]
 have hf := foldl_set cs v.cells.toList o 0 (by rw [cv.h]; have := sp.le; omega)
 simp only [Nat.add_zero, Array.toArray_toList] at hf
 have hf2 : Array.foldl (fun (cs : Array Value) x => match x with | (c, j) => cs.setIfInBounds (o + j) c) cs.toArray v.cells.zipIdx = (cs.take o ++ v.cells.toList ++ cs.drop (o + v.cells.toList.length)).toArray := hf
 rw [hf2, cv.h, sp.h]
 exact f.h⟩
theorem Q_build {t : Nat} {ps : List (Nat × Operand)} {vs : List (Nat × Value)} {cs zero : List Value} {pl : List (Nat × Nat)} [b : Places P t pl zero] (hx : partsOf ρ ps = some vs) [hc : FillL pl zero vs cs] :
 QOp P E n ⟨dst, .build t ps.toArray, ty, pos, after, g⟩ ρ L (.agg cs.toArray) := fun a w ha hs => by
 have e : (ps.toArray.map fun (i, x) => (i, a.eval x)) = vs.toArray := by rw [← partsOf_eq ha hx]; simp
 simp only [execOp]
 rw [e]
 simp [b.h w vs.toArray cs.toArray (by simpa using hc.h)]
/-- a slice of values -/
theorem O_lit {K : Value → List HProp → Prop} {t sz by_ : Nat} {z : Value} {xs : List Operand} {m : Nat} {vs : List Value} (l : List α) [u : TyU P t (.slice τ.e)] [v : TyI P τ.e sz z by_] (hx : ρ.evs xs = some vs) (hm : m = vs.length) (hsz : sz = τ.sz) (hz : z.cells.size = sz)
 (hl : vs.map (fun v => v.cells.toList) = l.map τ.enc) (h24 : m * sz ≤ 16777216) (hK : ∀ S, K (SV.v S) (slc τ true S l :: L)) : JOp P E n ⟨dst, .buildSlice t m (xs.zipIdx.map fun (x, i) => (i, x)).toArray, ty, pos, after, g⟩ K ρ L := fun a w ha hs next Q hn => by
 obtain ⟨r, hr, hrs, hrz, hrb⟩ := v.get
 have hlen : vs.length = l.length := by have := congrArg List.length hl; simpa using this
 have hcells : ∀ u ∈ vs, u.cells.size = sz := fun u hu => by
  have h1 : u.cells.toList ∈ l.map τ.enc := by rw [← hl]; exact List.mem_map_of_mem hu
  obtain ⟨b, _, hb⟩ := List.mem_map.1 h1
  have := τ.len b
  rw [hb] at this
  rw [hsz]; simpa using this
 have hflat : (vs.flatMap fun v => v.cells.toList) = τ.flat l := by
  have h1 : (vs.map (fun v => v.cells.toList)).flatten = (l.map τ.enc).flatten := by rw [hl]
  simpa [List.flatMap, Ty.flat] using h1
 let C : List Value := (Array.range (m * sz)).toList.map (z.cells[· % z.cells.size]!)
 have hC : C.length = m * sz := by simp [C]
 have hfill := run_fill sz vs 0 C hcells (by rw [hC, hm]; omega)
 rw [hflat] at hfill
 simp only [Nat.zero_mul, List.take_zero, List.nil_append, Nat.zero_add] at hfill
 rw [List.drop_of_length_le (by rw [hC, hm]; omega), List.append_nil] at hfill
 have hrun : (Instr.buildSlice t m ((xs.zipIdx.map fun (x, i) => (i, x)).toArray.map fun (i, x) => (i, a.eval x))).run P w = .ok (.slice (some ⟨w.heap.size, 0, none⟩) m m) (w.alloc (.cells (τ.flat l).toArray τ.e)) := by
  have e1 : ((xs.zipIdx.map fun (x, i) => (i, x)).toArray.map fun (i, x) => (i, a.eval x)) = ((vs.zipIdx 0).map fun (v, i) => (i, v)).toArray := by
   rw [← ha.evs hx]
   simp [List.zipIdx_map]
  rw [e1]
  simp only [Instr.buildSlice]
  have h24' : ¬ (m * sz > 2 ^ 24) := by omega
  by_cases h0 : m * sz = 0
  ·have hm0 : m = 0 := by
    rcases Nat.eq_zero_or_pos m with h | h
    ·exact h
    ·have := Nat.mul_le_mul_right sz h; have := τ.pos; omega
   have hv0 : vs = [] := List.eq_nil_of_length_eq_zero (by omega)
   have hl0 : l = [] := List.eq_nil_of_length_eq_zero (by omega)
   subst hv0 hl0 hm0
   simp [run_underlying u.h, sizeOf, typeInfo, hr, Instr.fill, newRow, Ty.flat, Array.range_zero']
  ·have eC : ((Array.range (m * sz)).map (z.cells[· % z.cells.size]!)) = C.toArray := by
    apply Array.ext'; simp [C]
   simp [run_underlying u.h, sizeOf, typeInfo, zeroValue, hr, hrs, hrz, h0, show ¬ (16777216 < m * sz) by omega]
   rw [eC, hfill]
   simp [newRow]
 have hfl := τ.flat_length l
 have hsat := hs.new_row (τ := τ) (l := l) (c := m) (newed_alloc w (.cells (τ.flat l).toArray τ.e)) (.inl (Nat.le_refl _)) (by omega) (by rw [hfl, hm, hlen]; exact Nat.le_refl _) (by
  rw [List.take_of_length_le (by omega)]) (by have := τ.pos; have h2 : m * 1 ≤ m * sz := Nat.mul_le_mul_left m (by omega); omega)
 unfold Oper.wp
 simp only [execOp]
 simp only [Sem.run_bind, hrun, Result.andThen_ok, Sem.run_pure]
 rw [← hlen, ← hm] at hsat
 exact hn _ _ _ (hK ⟨some ⟨w.heap.size, 0, none⟩, m, m⟩) hsat
end
end Go.SL
/- From the arguments' readings to chunks, and from a specification of a law to its row's contract. -/
set_option autoImplicit false
namespace Go.SL
open Go.ChangeShapes Go.WideShapes Go.Deep Go.RowKit
inductive Leaf where
 | int (k : IntKind)
 | str
 | bool
def LeafOk : Leaf → Value → Prop
 | .int k, v => ∃ n, v = .int k n ∧ (Lit.int k n).wf = true
 | .str, v => ∃ l : List UInt8, v = SL.str l ∧ l.length ≤ maxLen
 | .bool, v => ∃ b, v = .bool b
def LeafsOk : List Leaf → List Value → Prop
 | [], [] => True
 | l :: ls, v :: vs => LeafOk l v ∧ LeafsOk ls vs
 | _, _ => False
/-- The leafs of a type: integers, strings, bools, in structs or not. -/
def fieldLeafs (leafs : Nat → Option (List Leaf)) (size : Nat → Nat) : Nat → List Field → Option (List Leaf)
 | _, [] => some []
 | off, f :: fs => if f.offset = off then match leafs f.type, fieldLeafs leafs size (off + size f.type) fs with
  | some l, some ls => if l.length = size f.type then some (l ++ ls) else none
  | _, _ => none
  else none
def leafsOf (P : Program) : Nat → Nat → Option (List Leaf)
 | 0, _ => none
 | d + 1, t => match P.underlying t with
  | some (.int k) => some [.int k]
  | some .string => some [.str]
  | some .bool => some [.bool]
  | some (.struct fs) => match fieldLeafs (leafsOf P d) P.cellsOf 0 fs.toList with
   | some ls => if ls.length = P.cellsOf t then some ls else none
   | none => none
  | _ => none
theorem LeafsOk.length : ∀ {ls : List Leaf} {vs : List Value}, LeafsOk ls vs → vs.length = ls.length
 | [], [], _ => rfl
 | _ :: _, _ :: _, h => by simp [LeafsOk.length h.2]
 | [], _ :: _, h => h.elim
 | _ :: _, [], h => h.elim
theorem LeafsOk.append : ∀ {ls ls' : List Leaf} {vs vs' : List Value}, LeafsOk ls vs → LeafsOk ls' vs' → LeafsOk (ls ++ ls') (vs ++ vs')
 | [], _, [], _, _, h' => h'
 | _ :: _, _, _ :: _, _, h, h' => ⟨h.1, LeafsOk.append h.2 h'⟩
 | [], _, _ :: _, _, h, _ => h.elim
 | _ :: _, _, [], _, h, _ => h.elim
section
variable {H : Type} {enc : TypeId × Value → H} {P : Program} {w : World} {base : Nat} {spare : Nat → Bool} {held : Bool}
theorem leafs_ok : ∀ (d t : Nat) (ls : List Leaf) (fuel : Nat) (cs : List Value) (x : DataW H × List MemPlace), leafsOf P d t = some ls → DataW.trod enc P w base spare held fuel t cs = some x → LeafsOk ls cs
 | 0, _, _, _, _, _, h, _ => by simp [leafsOf] at h
 | d + 1, t, ls, fuel, cs, x, h, hx => by
  simp only [leafsOf] at h
  split at h
  ·rename_i k ht
   obtain ⟨n, rfl, _, hw⟩ := DataW.trod_int ht hx
   simp only [Option.some.injEq] at h; subst h
   exact ⟨⟨n, rfl, hw⟩, trivial⟩
  ·rename_i ht
   obtain ⟨s, rfl, _, hw⟩ := DataW.trod_string ht hx
   simp only [Option.some.injEq] at h; subst h
   exact ⟨⟨s.data.toList, by cases s; simp [SL.str], by rw [Array.length_toList]; exact hw⟩, trivial⟩
  ·rename_i ht
   obtain ⟨b, rfl, _⟩ := DataW.trod_bool ht hx
   simp only [Option.some.injEq] at h; subst h
   exact ⟨⟨b, rfl⟩, trivial⟩
  ·rename_i fs ht
   obtain ⟨xs, n, _, _, hlen, hxl, hf⟩ := DataW.trod_struct ht hx
   have key : ∀ (gs : List Field) (k off : Nat) (ls : List Leaf), fieldLeafs (leafsOf P d) P.cellsOf off gs = some ls → (∀ (i : Nat) f, gs[i]? = some f → fs[k + i]? = some f) → ∃ vs, (cs.drop off).take ls.length = vs ∧ LeafsOk ls vs := by
    intro gs
    induction gs with
    | nil =>
     intro k off ls h _
     simp only [fieldLeafs, Option.some.injEq] at h; subst h
     exact ⟨[], by simp, trivial⟩
    | cons f gs ih =>
     intro k off ls h hg
     simp only [fieldLeafs] at h
     split at h
     ·rename_i hoff
      split at h
      ·rename_i l ls' hl hls
       split at h
       ·rename_i hsz
        simp only [Option.some.injEq] at h; subst h
        have hk : fs[k]? = some f := by simpa using hg 0 f rfl
        have h1 := hf k f hk
        have hkl : k < xs.length := by rw [hxl]; exact (Array.getElem?_eq_some_iff.1 hk).1
        rw [List.getElem?_eq_getElem hkl] at h1
        have h2 := leafs_ok d f.type l n _ _ hl h1
        rw [hoff] at h2
        obtain ⟨vs, hvs, hok⟩ := ih (k + 1) (off + P.cellsOf f.type) ls' hls (fun i f' hi => by have := hg (i + 1) f' (by simpa using hi); rw [show k + 1 + i = k + (i + 1) by omega]; exact this)
        refine ⟨_, rfl, ?_⟩
        rw [List.length_append, List.take_add, List.drop_drop]
        refine LeafsOk.append ?_ ?_
        ·rw [hsz]; exact h2
        ·rw [hsz, hvs]; exact hok
       ·cases h
      ·cases h
     ·cases h
   split at h
   ·rename_i ls' hls
    split at h
    ·rename_i hcl
     simp only [Option.some.injEq] at h; subst h
     obtain ⟨vs, hvs, hok⟩ := key fs.toList 0 0 ls' hls (fun i f hi => by simpa using hi)
     rw [List.drop_zero, hcl, ← hlen, List.take_length] at hvs
     rw [hvs]; exact hok
    ·cases h
   ·cases h
  ·cases h
/-- A slice that came in: its elements' cells. -/
theorem rows_ok {d t e : Nat} {ls : List Leaf} {S : SV} {dd : DataW H} {ps : List MemPlace} (ht : P.underlying t = some (.slice e)) (hl : leafsOf P d e = some ls) (hc : P.cellsOf e = ls.length)
 (h : DataW.Trod enc P w base spare held t S.v dd ps) :
 ∃ (rows : List (List Value)), S.n = rows.length ∧ S.n ≤ S.c ∧ S.c ≤ maxLen ∧ (∀ r ∈ rows, LeafsOk ls r) ∧
  ((S.a = none ∧ S.c = 0) ∨ ∃ a, S.a = some a ∧ ∀ (j : Nat) u, rows.flatten[j]? = some u → a.block < w.heap.size ∧ w.cell? (a.add j) = some u) ∧
  (dd = .nil ∨ ∃ el sp, dd = .slice el sp ∧ S.n ≤ el.length) := by
 obtain ⟨fuel, hf⟩ := h
 rcases open_slice ht hf with ⟨hcs, hx⟩ | ⟨a, len, cap, m, n, D, Pl, hcs, hb, hle, hm, hmm, hx, hi⟩
 ·simp only [SV.v, Value.cells, List.cons.injEq, Value.slice.injEq, and_true] at hcs
  obtain ⟨h1, h2, h3⟩ := hcs
  exact ⟨[], h2, by omega, by omega, by simp, .inl ⟨h1, h3⟩, .inl (Prod.mk.inj hx).1⟩
 ·simp only [SV.v, Value.cells, List.cons.injEq, Value.slice.injEq, and_true] at hcs
  obtain ⟨h1, h2, h3⟩ := hcs
  have hlm : len ≤ m := by rw [hmm]; split <;> omega
  have key : ∀ q, q ≤ len → ∃ rows : List (List Value), rows.length = q ∧ rows.flatten.length = q * ls.length ∧ (∀ r ∈ rows, LeafsOk ls r) ∧ ∀ (j : Nat) u, rows.flatten[j]? = some u → w.cell? (a.add j) = some u := by
   intro q
   induction q with
   | zero => intro _; exact ⟨[], rfl, by simp, by simp, by simp⟩
   | succ q ih =>
    intro hq
    obtain ⟨rows, r1, r2, r3, r4⟩ := ih (by omega)
    obtain ⟨cs', hc', ht'⟩ := hi q (by omega)
    obtain ⟨_, c2, c3⟩ := World.cells?_some hc'
    have hok := leafs_ok d e ls n cs' _ hl ht'
    rw [hc] at c2 c3
    refine ⟨rows ++ [cs'], by simp [r1], ?_, ?_, ?_⟩
    ·simp only [List.flatten_append, List.length_append, r2, List.flatten_cons, List.flatten_nil, List.append_nil, c2, Nat.add_mul, Nat.one_mul]
    ·intro r hr; rcases List.mem_append.1 hr with hr | hr
     ·exact r3 r hr
     ·rw [List.mem_singleton.1 hr]; exact hok
    ·intro j u hu
     simp only [List.flatten_append, List.flatten_cons, List.flatten_nil, List.append_nil] at hu
     by_cases hj : j < rows.flatten.length
     ·rw [List.getElem?_append_left hj] at hu; exact r4 j u hu
     ·rw [List.getElem?_append_right (by omega), r2] at hu
      have hlt : j - q * ls.length < ls.length := by have := (List.getElem?_eq_some_iff.1 hu).1; omega
      have h5 := c3 (j - q * ls.length) hlt
      rw [hu, addr_add_add, show q * ls.length + (j - q * ls.length) = j by omega] at h5
      exact h5
  obtain ⟨rows, r1, _, r3, r4⟩ := key len (Nat.le_refl _)
  refine ⟨rows, by rw [h2, r1], by omega, by omega, r3, .inr ⟨a, h1, fun j u hu => ?_⟩, .inr ⟨_, _, (Prod.mk.inj hx).1, by simp [h2]⟩⟩
  have := r4 j u hu
  refine ⟨?_, this⟩
  have hbl := World.block_lt_of_cell? w _ this
  have hb2 : (a.add j).block = a.block := by unfold Addr.add; split <;> rfl
  rwa [hb2] at hbl
end
/-- .. as a chunk that owns nothing, of values of a Lean type. -/
theorem slc_of_rows {α : Type} (τ : Ty α) {E : World} {S : SV} {rows : List (List Value)} {ok : α → Prop} (h1 : S.n = rows.length) (h2 : S.n ≤ S.c)
 (h3 : (S.a = none ∧ S.c = 0) ∨ ∃ a, S.a = some a ∧ ∀ (j : Nat) u, rows.flatten[j]? = some u → a.block < E.heap.size ∧ E.cell? (a.add j) = some u)
 (h4 : ∀ r ∈ rows, ∃ a, r = τ.enc a ∧ ok a) : ∃ l : List α, l.length = S.n ∧ (∀ a ∈ l, ok a) ∧ ∀ g, slc τ false S l E g := by
 have key : ∀ rows : List (List Value), (∀ r ∈ rows, ∃ a, r = τ.enc a ∧ ok a) → ∃ l : List α, rows = l.map τ.enc ∧ ∀ a ∈ l, ok a := by
  intro rows
  induction rows with
  | nil => intro _; exact ⟨[], rfl, by simp⟩
  | cons r rows ih =>
   intro h
   obtain ⟨a, ha, hok⟩ := h r (by simp)
   obtain ⟨l, hl, hl2⟩ := ih (fun r hr => h r (by simp [hr]))
   exact ⟨a :: l, by simp [ha, hl], by intro b hb; rcases List.mem_cons.1 hb with rfl | hb; exact hok; exact hl2 b hb⟩
 obtain ⟨l, hl, hok⟩ := key rows h4
 have hlen : l.length = S.n := by rw [h1, hl]; simp
 have hflat : τ.flat l = rows.flatten := by rw [hl]; simp [Ty.flat, List.flatMap]
 refine ⟨l, hlen, hok, fun g => ⟨hlen.symm, h2, ?_⟩⟩
 rcases h3 with h3 | ⟨a, ha, h3⟩
 ·exact .inl h3
 ·exact .inr (.inl ⟨a, ha, rfl, by rw [hflat]; exact h3⟩)
/-- A law: from its specification to its row's contract. -/
theorem law_calls {P : Program} {f : Nat} {args : List Value} {pre : List HProp} {W : World} {K : Value → List HProp → Prop} (h : Does P W f args pre K) (hK : ∀ v L, K v L → v = .bool true) (hp : ∀ c ∈ pre, ∀ g, c W g) :
 Calls P f args.toArray W fun e w' => e = .returned (.bool true) ∧ Below W.heap.size W w' := by
 have key : ∀ L : List HProp, (∀ c ∈ L, ∀ g, c W g) → Sat W W L := by
  intro L
  induction L with
  | nil => intro _; exact Sat.start W
  | cons c L ih => intro h; exact (ih fun d hd => h d (by simp [hd])).lay (h c (by simp))
 refine (h emp W (key (pre ++ [emp]) ?_)).mono ?_
 ·intro c hc g
  rcases List.mem_append.1 hc with hc | hc
  ·exact hp c hc g
  ·rw [List.mem_singleton.1 hc]; trivial
 ·rintro e w' ⟨v, L', rfl, hk, hs⟩
  rw [hK v L' hk]
  exact ⟨rfl, hs.os, hs.tape, hs.output, hs.size, hs.old⟩
end Go.SL
/- The arguments of a row, each opened as what it is. -/
set_option autoImplicit false
namespace Go.SL
open Go.ChangeShapes Go.WideShapes Go.Deep Go.RowKit
/-- What came in: a value of leafs. -/
def InStruct (ls : List Leaf) (v : Value) : Prop := ∃ vs : List Value, v = .agg vs.toArray ∧ LeafsOk ls vs
/-- What came in: rows of leafs. -/
def InRows (W : World) (ls : List Leaf) (v : Value) : Prop := ∃ (S : SV) (rows : List (List Value)), v = S.v ∧ S.n = rows.length ∧ S.n ≤ S.c ∧ S.c ≤ maxLen ∧ (∀ r ∈ rows, LeafsOk ls r) ∧
 ((S.a = none ∧ S.c = 0) ∨ ∃ a, S.a = some a ∧ ∀ (j : Nat) u, rows.flatten[j]? = some u → a.block < W.heap.size ∧ W.cell? (a.add j) = some u)
section
variable {H : Type} {enc : TypeId × Value → H} {P : Program} {W : World} {base b0 : Nat} {spare : Nat → Bool} {held : Bool} {r : Reach} {t : TypeId} {v : Value} {d : DataW H} {ps : List MemPlace}
theorem in_struct {fs : Array Field} {dep : Nat} {ls : List Leaf} (ht : P.underlying t = some (.struct fs)) (hl : leafsOf P dep t = some ls) (hval : Value.okWide P W r b0 t v) (h : DataW.Trod enc P W base spare held t v d ps) : InStruct ls v := by
 obtain ⟨cs, rfl, _⟩ := okWide_struct ht hval
 obtain ⟨fuel, hf⟩ := h
 have := leafs_ok dep t ls fuel _ _ hl hf
 exact ⟨cs.toList, by simp, by simpa [Value.cells] using this⟩
theorem in_rows {e dep : Nat} {ls : List Leaf} (ht : P.underlying t = some (.slice e)) (hl : leafsOf P dep e = some ls) (hc : P.cellsOf e = ls.length) (hval : Value.okWide P W r b0 t v) (h : DataW.Trod enc P W base spare held t v d ps) : InRows W ls v := by
 obtain ⟨a, n, c, rfl⟩ := okWide_slice ht hval
 obtain ⟨rows, h1, h2, h3, h4, h5, _⟩ := rows_ok (S := ⟨a, n, c⟩) ht hl hc h
 exact ⟨⟨a, n, c⟩, rows, rfl, h1, h2, h3, h4, h5⟩
end
/-- Rows that came in, as a chunk. -/
theorem InRows.slc {α : Type} (τ : Ty α) {W : World} {ls : List Leaf} {v : Value} (h : InRows W ls v) {ok : α → Prop} (h4 : ∀ r, LeafsOk ls r → ∃ a, r = τ.enc a ∧ ok a) :
 ∃ (S : SV) (l : List α), v = S.v ∧ l.length = S.n ∧ l.length ≤ maxLen ∧ (∀ a ∈ l, ok a) ∧ ∀ g, slc τ false S l W g := by
 obtain ⟨S, rows, rfl, h1, h2, h3, h5, h6⟩ := h
 obtain ⟨l, l1, l2, l3⟩ := slc_of_rows τ (ok := ok) h1 h2 h6 (fun r hr => h4 r (h5 r hr))
 exact ⟨S, l, rfl, l1, by omega, l2, l3⟩
theorem leafs_int {k : IntKind} {ls : List Leaf} {vs : List Value} (h : LeafsOk (.int k :: ls) vs) : ∃ n r, vs = .int k n :: r ∧ (Lit.int k n).wf = true ∧ LeafsOk ls r := by
 cases vs with
 | nil => exact h.elim
 | cons v r => obtain ⟨⟨n, rfl, hw⟩, h2⟩ := h; exact ⟨n, r, rfl, hw, h2⟩
theorem leafs_nil {vs : List Value} (h : LeafsOk [] vs) : vs = [] := by
 cases vs with
 | nil => rfl
 | cons v r => exact h.elim
theorem wf_i64 {n : Int} (h : (Lit.int .i64 n).wf = true) : -9223372036854775808 ≤ n ∧ n ≤ 9223372036854775807 := by
 simp [Lit.wf, IntKind.min, IntKind.max, IntKind.bits, IntKind.signed] at h
 omega
theorem wf_u64 {n : Int} (h : (Lit.int .u64 n).wf = true) : ∃ k : Nat, n = (k : Int) ∧ k < 2 ^ 64 := by
 have : 0 ≤ n ∧ n < 18446744073709551616 := by
  simp [Lit.wf, IntKind.min, IntKind.max, IntKind.bits, IntKind.signed] at h
  omega
 exact ⟨n.toNat, by omega, by omega⟩
end Go.SL
