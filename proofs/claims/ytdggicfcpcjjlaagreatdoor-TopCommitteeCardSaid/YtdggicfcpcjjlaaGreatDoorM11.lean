/- Part 11 of the texts below the row: Sl26, Sl31, Sl34, Sl11, Sl12, Sl17, Sl35, Sl51. -/
import Derived.ScopeJumps
import Derived.Deep.LoopGhost
import Derived.Laws.Strings3
import Derived.Laws.DeepStrings4
import Derived.Lib.LaidTab
import Derived.OpenShut
import Derived.Test.YtdggicfcpcjjlaaGreatDoorM1
import Derived.Test.YtdggicfcpcjjlaaGreatDoorM9
import Derived.Test.YtdggicfcpcjjlaaGreatDoorM10
/- Great blocks, whose cells are told one by one: loads, stores of parts. -/
set_option autoImplicit false
namespace Go.SL
section
variable {P : Program} {E : World} {n : Nat} {ρ : Env} {L : List HProp} {dst : Option Tmp} {ty : TypeId} {pos : String} {after : Array Edge} {g : Option (Nat × Bool)}
/-- A store of some cells in a block. -/
theorem O_stP (i : Nat) {K : Value → List HProp → Prop} {t b o tb sz by_ : Nat} {z v : Value} {x y : Operand} {cs vs cs' : List Value} [k : TyI P t sz z by_] (hx : ρ.ev x = some (.pointer (some ⟨b, o, none⟩))) (hy : ρ.ev y = some v) [hv : CellsL v vs]
 (hi : L[i]? = some (cel b cs tb)) [hsz : LenL vs sz] [hs : SpliceL cs o vs cs'] (h1 : vs.all Value.oneCell' = true)
 (hk : K undef (L.set i (cel b cs' tb))) : JOp P E n ⟨none, .store t x y, ty, pos, after, g⟩ K ρ L :=
 O_st i hx hy hi hv.h hsz.h (fun c hc => List.all_eq_true.1 h1 c hc) (by have := hs.le; rw [hsz.h] at this; exact this) (by have := hs.h; rw [hsz.h] at this; exact this) hk
end
end Go.SL
/- A scope whose run jumps back to the label at its head. -/
set_option autoImplicit false
namespace Go.SL
def jumpQ {ι : Type} (l : Nat) (I : ι → Prop) (env : ι → Env) (res : ι → List HProp) (μ : ι → Nat) (i : ι) (Q : Post) : Post
 | .goto l', ρ, L => l' = l ∧ ∃ i', I i' ∧ μ i' < μ i ∧ envSub (env i') ρ ∧ Ent L (res i')
 | e, ρ, L => Q e ρ L
section
variable {P : Program} {E : World} {n : Nat} {Q : Post} {ρ : Env} {L : List HProp} {b : Code}
theorem J_scopeJ {ι : Type} {l : Nat} (I : ι → Prop) (env : ι → Env) (res : ι → List HProp) (μ : ι → Nat) (i₀ : ι) (h0 : I i₀) (he : envSub (env i₀) ρ) (hL : Ent L (res i₀))
 (hb : ∀ i, I i → J P E n b (jumpQ l I env res μ i Q) (env i) (res i)) : J P E n (.scope (.seq (.label l) b)) Q ρ L := fun a w ha hs => by
 let Jm : Nat → Act → World → Prop := fun m a w => ∃ i, μ i = m ∧ I i ∧ Agrees a n (env i) ∧ Sat E w (res i)
 have pass : ∀ m a w, Jm m a w → b.wp P (Exit.jump l (fun a' w' => ∃ m', m' < m ∧ Jm m' a' w') (lift E n Q)) a w := by
  rintro m a w ⟨i, rfl, hI, ha, hs⟩
  refine wp_mono (hb i hI a w ha hs) fun e a' w' ⟨ρ', L', hQ, ha', hs'⟩ => ?_
  cases e with
  | goto l' =>
   obtain ⟨rfl, i', h1, h2, h3, h4⟩ := hQ
   exact ⟨rfl, μ i', h2, i', rfl, h1, ha'.sub h3, h4 E w' hs'⟩
  | _ => exact ⟨ρ', L', hQ, ha', hs'⟩
 refine wp_scope_jumps (rest := .seq .skip b) l (fun a w => ∃ m, Jm m a w) (fun a w => leastOf (fun m => Jm m a w)) (by simp [findLabel]) ?_ ?_
 ·refine wp_seq (wp_label ?_)
  refine wp_mono (pass (μ i₀) a w ⟨i₀, rfl, h0, ha.sub he, hL E w hs⟩) fun e a' w' hq => ?_
  cases e with
  | goto l' => exact ⟨hq.1, hq.2.imp fun _ h => h.2⟩
  | _ => exact hq
 ·intro a w hJ
  refine wp_seq (wp_skip ?_)
  refine wp_mono (pass _ a w (leastOf_spec hJ).1) fun e a' w' hq => ?_
  cases e with
  | goto l' =>
   obtain ⟨h1, m', hlt, hJ'⟩ := hq
   exact ⟨h1, ⟨m', hJ'⟩, Nat.lt_of_le_of_lt ((leastOf_spec ⟨m', hJ'⟩).2 m' hJ') hlt⟩
  | _ => exact hq
theorem jumpQ_ret {ι : Type} {l : Nat} {I : ι → Prop} {env : ι → Env} {res : ι → List HProp} {μ : ι → Nat} {i : ι} (h : Q .ret ρ L) : jumpQ l I env res μ i Q .ret ρ L := h
theorem J_goto {l : Nat} (h : Q (.goto l) ρ L) : J P E n (.goto l) Q ρ L := fun _ _ ha hs => wp_goto ⟨ρ, L, h, ha, hs⟩
theorem jumpQ_goto {ι : Type} {l : Nat} {I : ι → Prop} {env : ι → Env} {res : ι → List HProp} {μ : ι → Nat} {i : ι} (i' : ι) (h1 : I i') (h2 : μ i' < μ i) (h3 : envSub (env i') ρ) (h4 : Ent L (res i')) : jumpQ l I env res μ i Q (.goto l) ρ L := ⟨rfl, i', h1, h2, h3, h4⟩
/-- Behind a test both ways are one again. -/
def joinQ {ι : Type} (I : ι → Prop) (env : ι → Env) (res : ι → List HProp) (Q : Post) : Post
 | .normal, ρ, L => ∃ i, I i ∧ envSub (env i) ρ ∧ Ent L (res i)
 | e, ρ, L => Q e ρ L
theorem J_join {ι : Type} {c : Code} (I : ι → Prop) (env : ι → Env) (res : ι → List HProp) (h : J P E n c (joinQ I env res Q) ρ L) (hr : ∀ i, I i → Q .normal (env i) (res i)) : J P E n c Q ρ L := fun a w ha hs => by
 refine wp_mono (h a w ha hs) fun e a' w' ⟨ρ', L', hQ, ha', hs'⟩ => ?_
 cases e with
 | normal =>
  obtain ⟨i, h1, h2, h3⟩ := hQ
  exact ⟨_, _, hr i h1, ha'.sub h2, h3 E w' hs'⟩
 | _ => exact ⟨ρ', L', hQ, ha', hs'⟩
theorem joinQ_normal {ι : Type} {I : ι → Prop} {env : ι → Env} {res : ι → List HProp} (i : ι) (h1 : I i) (h2 : envSub (env i) ρ) (h3 : Ent L (res i)) : joinQ I env res Q .normal ρ L := ⟨i, h1, h2, h3⟩
/-- A store of one cell at a place that is no literal. -/
theorem O_stS {o : Nat} (i : Nat) {K : Value → List HProp → Prop} {t b tb by_ : Nat} {z v : Value} {x y : Operand} {cs : List Value} {ty : TypeId} {pos : String} {after : Array Edge} {g : Option (Nat × Bool)} [k : TyI P t 1 z by_] (hx : ρ.ev x = some (.pointer (some ⟨b, o, none⟩))) (hy : ρ.ev y = some v)
 (hi : L[i]? = some (cel b cs tb)) (hvs : v.cells.toList = [v]) (h1 : v.oneCell' = true) (ho : o < cs.length)
 (hk : K undef (L.set i (cel b (cs.set o v) tb))) : JOp P E n ⟨none, .store t x y, ty, pos, after, g⟩ K ρ L :=
 O_st i hx hy hi hvs rfl (by intro c hc; simp at hc; subst hc; exact h1) (by simp only [List.length_cons, List.length_nil]; omega) (by rw [List.set_eq_take_append_cons_drop, if_pos ho]; simp) hk
end
end Go.SL
/- Great arrays: loads and stores at places that are no literals; zeros told otherwise. -/
set_option autoImplicit false
namespace Go.SL
theorem take_all {a : List Value} {k : Nat} (h : a.length = k) : (List.drop 0 a).take k = a := by rw [List.drop_zero, ← h, List.take_length]
theorem whole_put {a b : List Value} {k : Nat} (h : a.length = k) : List.take 0 a ++ b ++ List.drop (0 + k) a = b := by
 rw [List.drop_of_length_le (by omega), List.take_zero, List.nil_append, List.append_nil]
section
variable {P : Program} {E : World} {n : Nat} {ρ : Env} {L : List HProp} {dst : Option Tmp} {ty : TypeId} {pos : String} {after : Array Edge} {g : Option (Nat × Bool)}
theorem Q_ldS (i : Nat) {t b o tb sz by_ : Nat} {z : Value} {x : Operand} {cs vs : List Value} {d : TypeDesc} [u : TyU P t d] [k : TyI P t sz z by_] (hx : ρ.ev x = some (.pointer (some ⟨b, o, none⟩))) (hi : L[i]? = some (cel b cs tb)) (hd : isAggD d = true)
 (hv : (cs.drop o).take sz = vs) (hl : vs.length = sz) : QOp P E n ⟨dst, .load t x, ty, pos, after, g⟩ ρ L (.agg vs.toArray) := fun c w ha hs => by
 obtain ⟨r, hr, hsz, _⟩ := k.get
 have h1 : (loadCells ⟨b, o, none⟩ sz).run P w = .ok vs.toArray w := by
  refine run_cells _ vs (fun j u hu => ?_) _ hl.symm
  rw [addr_add]
  refine hs.cel_cell hi _ u ?_
  have hj := (List.getElem?_eq_some_iff.1 hu).1
  rw [← hv, List.getElem?_take, if_pos (by omega), List.getElem?_drop] at hu
  exact hu
 simp only [execOp, ha.ev hx]
 simp [Instr.loadAt, Instr.sureAddr, loadVar, run_isAgg u.h, hd, sizeOf, typeInfo, hr, hsz, h1]
theorem O_stV {o : Nat} (i : Nat) {K : Value → List HProp → Prop} {t b tb sz by_ : Nat} {z : Value} {x y : Operand} {cs vs : List Value} [k : TyI P t sz z by_] (hx : ρ.ev x = some (.pointer (some ⟨b, o, none⟩))) (hy : ρ.ev y = some (.agg vs.toArray))
 (hi : L[i]? = some (cel b cs tb)) (hl : vs.length = sz) (h1 : ∀ c ∈ vs, c.oneCell' = true) (ho : o + sz ≤ cs.length)
 (hk : K undef (L.set i (cel b (cs.take o ++ vs ++ cs.drop (o + sz)) tb))) : JOp P E n ⟨none, .store t x y, ty, pos, after, g⟩ K ρ L :=
 O_st i hx hy hi (by simp [Value.cells]) hl h1 ho rfl hk
theorem O_allocL {K : Value → List HProp → Prop} {t sz by_ : Nat} {z : Value} (cs : List Value) [k : TyI P t sz z by_] (hc : z.cells = cs.toArray) (hk : ∀ b, K (.pointer (some ⟨b, 0, none⟩)) (cel b cs t :: L)) : JOp P E n ⟨dst, .alloc t, ty, pos, after, g⟩ K ρ L := fun c w ha hs next Q hn => by
 obtain ⟨r, hr, _, hz, _⟩ := k.get
 unfold Oper.wp
 simp only [execOp, Instr.alloc, newVar, newRow, zeroValue, typeInfo]
 simp only [Sem.run_bind, run_program, Result.andThen_ok, hr, hz, Sem.run_pure, run_newObj, World.alloc_eq]
 refine hn _ _ _ (hk w.heap.size) ?_
 refine (hs.newed (newed_alloc w _)).weaken fun p hp => ⟨(0, 0), ?_, by simp⟩
 rw [← hc]
 simpa [blk] using hp
/-- A call that leaves no chunk behind: what it hands back is known but for a ghost. -/
theorem O_callE {f : Nat} {xs : List Operand} {ts : Array TypeId} {vs : List Value} {ι : Type} {R : ι → Prop} {v : ι → Value} {K : Value → List HProp → Prop} [hf : HasFn P f] (hc : Does P E f vs [] fun r L => ∃ x, R x ∧ r = v x ∧ L = []) (hx : ρ.evs xs = some vs)
 (hK : ∀ x, R x → K (v x) L) : JOp P E n ⟨dst, .call ⟨.value (.func f), xs.toArray, ts⟩, ty, pos, after, g⟩ K ρ L := fun a w ha hs => by
 have h := O_call (P := P) (E := E) (n := n) (ρ := ρ) (L := [stars L]) (dst := dst) (ty := ty) (pos := pos) (after := after) (g := g) (ts := ts) (K := fun v L' => ∃ M, L' = [stars M] ∧ K v M) [] [0] hc hx rfl
  (fun v' L' h => by obtain ⟨x, hx, rfl, rfl⟩ := h; exact ⟨L, rfl, hK x hx⟩) a w ha (Sat.fold (A := []) hs)
 refine fun next Q hn => h next Q ?_
 rintro v' L' w' ⟨M, rfl, hk⟩ hs'
 exact hn v' M w' hk (Sat.unfold (A := []) hs')
end
theorem fill_mono {pl : List (Nat × Nat)} (hp : ∀ (j : Nat) (x : Nat × Nat), pl[j]? = some x → x = (j, 1)) : ∀ (l : List (Nat × Value)) (c0 c1 : Array Value), Instr.fill (pl.toArray[·]?) c0 l = some c1 → Instr.fill (fun i => some (i, 1)) c0 l = some c1
 | [], c0, c1, h => h
 | (i, v) :: l, c0, c1, h => by
  simp only [Instr.fill] at h ⊢
  cases hx : pl.toArray[i]? with
  | none => rw [hx] at h; cases h
  | some x =>
   have e := hp i x (by simpa using hx)
   rw [hx, e] at h
   simp only at h ⊢
   split
   ·rename_i hc; rw [if_pos hc] at h; cases h
   ·rename_i hc; rw [if_neg hc] at h; exact fill_mono hp l _ c1 h
theorem Places.arrN {P : Program} {t m el by_ : Nat} {z : Value} {k : IntKind} {pl : List (Nat × Nat)} [u : TyU P t (.array m el)] [v : TyI P el 1 z by_] {z' : Value} {by' : Nat} [v' : TyI P t m z' by'] {zero : List Value} (hz : z'.cells = zero.toArray) (hp : (pl.zipIdx.all fun x => x.1 == (x.2, 1)) = true) (_ : k = k) : Places P t pl zero := ⟨fun w parts cs h => by
 obtain ⟨i, hi, _, hz', _⟩ := v'.get
 obtain ⟨r, hr, hs', _⟩ := v.get
 have hp' : ∀ (j : Nat) (x : Nat × Nat), pl[j]? = some x → x = (j, 1) := fun j x hx => by
  have := List.all_eq_true.1 hp (x, j) (by rw [List.mem_zipIdx_iff_getElem?]; exact hx)
  exact eq_of_beq this
 simp only [Instr.build, Sem.run_bind, zeroValue, typeInfo, run_program, Result.andThen_ok, hi, hz', Sem.run_pure, run_underlying u.h, sizeOf, hr, hs', hz, Nat.mul_one, fill_mono hp' _ _ _ h]⟩
end Go.SL
/- Pieces of strings. -/
set_option autoImplicit false
namespace Go.SL
theorem str_extract (s : List UInt8) (lo hi : Nat) : (⟨s.toArray⟩ : ByteArray).extract lo hi = ⟨((s.take hi).drop lo).toArray⟩ := by
 apply ByteArray.ext
 rw [ByteArray.data_extract, List.extract_toArray, List.extract_eq_take_drop, List.drop_take]
theorem str_size (s : List UInt8) : (⟨s.toArray⟩ : ByteArray).size = s.length := rfl
section
variable {P : Program} {E : World} {n : Nat} {ρ : Env} {L : List HProp} {dst : Option Tmp} {ty : TypeId} {pos : String} {after : Array Edge} {g : Option (Nat × Bool)} {t : Nat} {x a b : Operand} {s : List UInt8} {k k' : IntKind} {i j : Int}
theorem Q_ssLH (lo hi : Nat) [u : TyU P t .string] (hx : ρ.ev x = some (str s)) (ha : ρ.ev a = some (.int k i)) (hb : ρ.ev b = some (.int k' j)) (hi' : i = (lo : Int)) (hj : j = (hi : Int)) (h1 : lo ≤ hi) (h2 : hi ≤ s.length) :
 QOp P E n ⟨dst, .slice t x (some a) (some b) none, ty, pos, after, g⟩ ρ L (str ((s.take hi).drop lo)) := fun c w hc _ => by
 subst hi' hj
 simp only [execOp, hc.ev hx, Option.map_some, hc.ev ha, hc.ev hb, Option.map_none]
 rw [Sem.run_bind, run_sliceAt_string (h := u.h), str, run_slice_string_if w t ⟨s.toArray⟩ k k' lo hi u.h, if_pos ⟨by omega, by rw [str_size]; omega⟩, if_pos ⟨by omega, by omega⟩, Int.toNat_natCast, Int.toNat_natCast, str_extract]; rfl
theorem Q_ssH (hi : Nat) [u : TyU P t .string] (hx : ρ.ev x = some (str s)) (hb : ρ.ev b = some (.int k' j)) (hj : j = (hi : Int)) (h2 : hi ≤ s.length) :
 QOp P E n ⟨dst, .slice t x none (some b) none, ty, pos, after, g⟩ ρ L (str (s.take hi)) := fun c w hc _ => by
 subst hj
 simp only [execOp, hc.ev hx, Option.map_some, hc.ev hb, Option.map_none]
 rw [Sem.run_bind, run_sliceAt_string (h := u.h), str, run_slice_string_to_if w t ⟨s.toArray⟩ k' hi u.h, if_pos ⟨by omega, by rw [str_size]; omega⟩, Int.toNat_natCast, str_extract, List.drop_zero]; rfl
theorem Q_ssL (lo : Nat) [u : TyU P t .string] (hx : ρ.ev x = some (str s)) (ha : ρ.ev a = some (.int k i)) (hi : i = (lo : Int)) (h2 : lo ≤ s.length) :
 QOp P E n ⟨dst, .slice t x (some a) none none, ty, pos, after, g⟩ ρ L (str (s.drop lo)) := fun c w hc _ => by
 subst hi
 simp only [execOp, hc.ev hx, Option.map_some, hc.ev ha, Option.map_none]
 rw [Sem.run_bind, run_sliceAt_string (h := u.h), str, run_slice_string_from_if w t ⟨s.toArray⟩ k lo u.h, if_pos ⟨by omega, by rw [str_size]; omega⟩, Int.toNat_natCast, str_extract, str_size, List.take_length]; rfl
end
end Go.SL
/- Unsigned numbers, as natural ones. -/
set_option autoImplicit false
namespace Go.SL
/-- An unsigned kind. -/
class Uns (k : IntKind) : Prop where
 h : k.signed = false
instance : Uns .u8 := ⟨rfl⟩
instance : Uns .u32 := ⟨rfl⟩
instance : Uns .u64 := ⟨rfl⟩
theorem wrapN (k : IntKind) [u : Uns k] (m : Nat) : k.wrap (m : Int) = ((m % 2 ^ k.bits : Nat) : Int) := by
 have h := u.h
 simp only [IntKind.wrap, h]
 simp
theorem wrap_lt (k : IntKind) [Uns k] (m : Nat) (h : m < 2 ^ k.bits) : k.wrap (m : Int) = (m : Int) := by rw [wrapN, Nat.mod_eq_of_lt h]
section
variable {P : Program} {E : World} {n : Nat} {ρ : Env} {L : List HProp} {dst : Option Tmp} {ty : TypeId} {pos : String} {after : Array Edge} {g : Option (Nat × Bool)} {t t' : Nat} {x y : Operand} {k k' : IntKind} [Uns k] {za zb : Int}
theorem Q_andN (a b : Nat) (hx : ρ.ev x = some (.int k za)) (hy : ρ.ev y = some (.int k zb)) (ha : za = (a : Int)) (hb : zb = (b : Int)) (h1 : a < 2 ^ k.bits) (h2 : b < 2 ^ k.bits) :
 QOp P E n ⟨dst, .binOp .and t x y t', ty, pos, after, g⟩ ρ L (.int k ((a &&& b : Nat) : Int)) := by
 subst ha hb
 refine Q_and hx hy ?_
 rw [BitVec.ofInt_natCast, BitVec.ofInt_natCast, BitVec.toNat_and, BitVec.toNat_ofNat, BitVec.toNat_ofNat, Nat.mod_eq_of_lt h1, Nat.mod_eq_of_lt h2]
 exact wrap_lt k _ (Nat.lt_of_le_of_lt Nat.and_le_left h1)
theorem Q_orN (a b : Nat) (hx : ρ.ev x = some (.int k za)) (hy : ρ.ev y = some (.int k zb)) (ha : za = (a : Int)) (hb : zb = (b : Int)) (h1 : a < 2 ^ k.bits) (h2 : b < 2 ^ k.bits) :
 QOp P E n ⟨dst, .binOp .or t x y t', ty, pos, after, g⟩ ρ L (.int k ((a ||| b : Nat) : Int)) := by
 subst ha hb
 refine Q_or hx hy ?_
 rw [BitVec.ofInt_natCast, BitVec.ofInt_natCast, BitVec.toNat_or, BitVec.toNat_ofNat, BitVec.toNat_ofNat, Nat.mod_eq_of_lt h1, Nat.mod_eq_of_lt h2]
 exact wrap_lt k _ (Nat.or_lt_two_pow h1 h2)
theorem Q_xorN (a b : Nat) (hx : ρ.ev x = some (.int k za)) (hy : ρ.ev y = some (.int k zb)) (ha : za = (a : Int)) (hb : zb = (b : Int)) (h1 : a < 2 ^ k.bits) (h2 : b < 2 ^ k.bits) :
 QOp P E n ⟨dst, .binOp .xor t x y t', ty, pos, after, g⟩ ρ L (.int k ((a ^^^ b : Nat) : Int)) := by
 subst ha hb
 refine Q_xor hx hy ?_
 rw [BitVec.ofInt_natCast, BitVec.ofInt_natCast, BitVec.toNat_xor, BitVec.toNat_ofNat, BitVec.toNat_ofNat, Nat.mod_eq_of_lt h1, Nat.mod_eq_of_lt h2]
 exact wrap_lt k _ (Nat.xor_lt_two_pow h1 h2)
theorem Q_addN (a b : Nat) (hx : ρ.ev x = some (.int k za)) (hy : ρ.ev y = some (.int k zb)) (ha : za = (a : Int)) (hb : zb = (b : Int)) :
 QOp P E n ⟨dst, .binOp .add t x y t', ty, pos, after, g⟩ ρ L (.int k (((a + b) % 2 ^ k.bits : Nat) : Int)) := by
 subst ha hb
 exact Q_add hx hy (by rw [← Int.natCast_add, wrapN])
theorem Q_shlN (a j : Nat) (hx : ρ.ev x = some (.int k za)) (hy : ρ.ev y = some (.int k' zb)) (ha : za = (a : Int)) (hb : zb = (j : Int)) (hj : j ≤ k.bits) :
 QOp P E n ⟨dst, .binOp .shl t x y t', ty, pos, after, g⟩ ρ L (.int k ((a * 2 ^ j % 2 ^ k.bits : Nat) : Int)) := by
 subst ha hb
 refine Q_shl hx hy (by omega) ?_
 rw [← wrapN, Int.toNat_natCast, Nat.min_eq_left hj]
 simp
theorem Q_shrN (a j : Nat) (hx : ρ.ev x = some (.int k za)) (hy : ρ.ev y = some (.int k' zb)) (ha : za = (a : Int)) (hb : zb = (j : Int)) (hj : j ≤ k.bits) :
 QOp P E n ⟨dst, .binOp .shr t x y t', ty, pos, after, g⟩ ρ L (.int k ((a / 2 ^ j : Nat) : Int)) := by
 have _ : k.signed = false := Uns.h
 subst ha hb
 refine Q_shr hx hy (by omega) ?_
 rw [Int.toNat_natCast, Nat.min_eq_left hj, Int.fdiv_eq_ediv_of_nonneg _ (by exact_mod_cast Nat.zero_le _)]
 simp
theorem Q_cvtN (a : Nat) {d : Nat} {s : TypeDesc} [u : TyU P t s] [u' : TyU P d (.int k)] (hx : ρ.ev x = some (.int k' za)) (ha : za = (a : Int)) :
 QOp P E n ⟨dst, .convert t d x, ty, pos, after, g⟩ ρ L (.int k ((a % 2 ^ k.bits : Nat) : Int)) := by
 subst ha
 exact Q_cvt hx (wrapN k a)
theorem Q_compl (a : Nat) (hx : ρ.ev x = some (.int k za)) (ha : za = (a : Int)) (h1 : a < 2 ^ k.bits) (hm : k.max = ((2 ^ k.bits - 1 : Nat) : Int)) :
 QOp P E n ⟨dst, .unOp .xor t x, ty, pos, after, g⟩ ρ L (.int k (((2 ^ k.bits - 1) ^^^ a : Nat) : Int)) := fun c w hc _ => by
 subst ha
 have u : k.signed = false := Uns.h
 have e : ((BitVec.ofInt k.bits ((2 ^ k.bits - 1 : Nat) : Int) ^^^ BitVec.ofInt k.bits (a : Int)).toNat : Int) = (((2 ^ k.bits - 1) ^^^ a : Nat) : Int) := by
  rw [BitVec.ofInt_natCast, BitVec.ofInt_natCast, BitVec.toNat_xor, BitVec.toNat_ofNat, BitVec.toNat_ofNat, Nat.mod_eq_of_lt h1, Nat.mod_eq_of_lt (by have := Nat.two_pow_pos k.bits; omega)]
 have h3 : (2 ^ k.bits - 1) ^^^ a < 2 ^ k.bits := Nat.xor_lt_two_pow (by have := Nat.two_pow_pos k.bits; omega) h1
 simp only [execOp, hc.ev hx, Op.unary, u, hm, Op.intBits]
 simp
 rw [Nat.mod_eq_of_lt h1, wrap_lt k _ h3]
end
end Go.SL
/- What is done in place: an append onto a beginning, a clear behind what is there. -/
set_option autoImplicit false
namespace Go.SL
section
variable {α : Type} {τ : Ty α} {P : Program} {E : World} {n : Nat} {ρ : Env} {L : List HProp} {dst : Option Tmp} {ty : TypeId} {pos : String} {after : Array Edge} {g : Option (Nat × Bool)}
end
end Go.SL
/- Words of 32 bits; slices cut to what they hold; the program's variables. -/
set_option autoImplicit false
namespace Go.SL
abbrev w32 (x : UInt32) : Value := .int .u32 (x.toNat : Int)
abbrev w8 (x : UInt8) : Value := .int .u8 (x.toNat : Int)
section
variable {P : Program} {E : World} {n : Nat} {ρ : Env} {L : List HProp} {dst : Option Tmp} {ty : TypeId} {pos : String} {after : Array Edge} {g : Option (Nat × Bool)} {t t' : Nat} {x y : Operand} {k' : IntKind}
theorem Q_addW {a b : UInt32} (hx : ρ.ev x = some (w32 a)) (hy : ρ.ev y = some (w32 b)) : QOp P E n ⟨dst, .binOp .add t x y t', ty, pos, after, g⟩ ρ L (w32 (a + b)) :=
 (Q_addN a.toNat b.toNat hx hy rfl rfl).as (by rw [w32, UInt32.toNat_add]; rfl)
theorem Q_xorW {a b : UInt32} (hx : ρ.ev x = some (w32 a)) (hy : ρ.ev y = some (w32 b)) : QOp P E n ⟨dst, .binOp .xor t x y t', ty, pos, after, g⟩ ρ L (w32 (a ^^^ b)) :=
 (Q_xorN a.toNat b.toNat hx hy rfl rfl a.toNat_lt b.toNat_lt).as (by rw [w32, UInt32.toNat_xor])
theorem Q_andW {a b : UInt32} (hx : ρ.ev x = some (w32 a)) (hy : ρ.ev y = some (w32 b)) : QOp P E n ⟨dst, .binOp .and t x y t', ty, pos, after, g⟩ ρ L (w32 (a &&& b)) :=
 (Q_andN a.toNat b.toNat hx hy rfl rfl a.toNat_lt b.toNat_lt).as (by rw [w32, UInt32.toNat_and])
theorem Q_orW {a b : UInt32} (hx : ρ.ev x = some (w32 a)) (hy : ρ.ev y = some (w32 b)) : QOp P E n ⟨dst, .binOp .or t x y t', ty, pos, after, g⟩ ρ L (w32 (a ||| b)) :=
 (Q_orN a.toNat b.toNat hx hy rfl rfl a.toNat_lt b.toNat_lt).as (by rw [w32, UInt32.toNat_or])
theorem Q_shlW {a : UInt32} (j : Nat) (hx : ρ.ev x = some (w32 a)) (hy : ρ.ev y = some (.int k' (j : Int))) (hj : j < 32) : QOp P E n ⟨dst, .binOp .shl t x y t', ty, pos, after, g⟩ ρ L (w32 (a <<< UInt32.ofNat j)) :=
 (Q_shlN a.toNat j hx hy rfl rfl (Nat.le_of_lt hj)).as (by
  have e : (UInt32.ofNat j).toNat = j := by rw [UInt32.toNat_ofNat']; exact Nat.mod_eq_of_lt (by omega)
  rw [w32, UInt32.toNat_shiftLeft, e, Nat.mod_eq_of_lt hj, Nat.shiftLeft_eq]; rfl)
theorem Q_shrW {a : UInt32} (j : Nat) (hx : ρ.ev x = some (w32 a)) (hy : ρ.ev y = some (.int k' (j : Int))) (hj : j < 32) : QOp P E n ⟨dst, .binOp .shr t x y t', ty, pos, after, g⟩ ρ L (w32 (a >>> UInt32.ofNat j)) :=
 (Q_shrN a.toNat j hx hy rfl rfl (Nat.le_of_lt hj)).as (by
  have e : (UInt32.ofNat j).toNat = j := by rw [UInt32.toNat_ofNat']; exact Nat.mod_eq_of_lt (by omega)
  rw [w32, UInt32.toNat_shiftRight, e, Nat.mod_eq_of_lt hj, Nat.shiftRight_eq_div_pow])
theorem Q_cvt8W {a : UInt8} {d : Nat} {s : TypeDesc} [u : TyU P t s] [u' : TyU P d (.int .u32)] (hx : ρ.ev x = some (w8 a)) : QOp P E n ⟨dst, .convert t d x, ty, pos, after, g⟩ ρ L (w32 a.toUInt32) :=
 (Q_cvtN (k := .u32) a.toNat hx rfl).as (by rw [w32, UInt8.toNat_toUInt32]; have := a.toNat_lt; rw [Nat.mod_eq_of_lt (by show _ < 4294967296; omega)])
theorem Q_cvtW8 {a : UInt32} {d : Nat} {s : TypeDesc} [u : TyU P t s] [u' : TyU P d (.int .u8)] (hx : ρ.ev x = some (w32 a)) : QOp P E n ⟨dst, .convert t d x, ty, pos, after, g⟩ ρ L (w8 a.toUInt8) :=
 (Q_cvtN (k := .u8) a.toNat hx rfl).as (by rw [w8, UInt32.toNat_toUInt8]; rfl)
theorem Q_cvtN8 {a : Nat} {d : Nat} {kk : IntKind} {s : TypeDesc} [u : TyU P t s] [u' : TyU P d (.int .u8)] (hx : ρ.ev x = some (.int kk (a : Int))) : QOp P E n ⟨dst, .convert t d x, ty, pos, after, g⟩ ρ L (w8 (UInt8.ofNat a)) :=
 (Q_cvtN (k := .u8) a hx rfl).as (by rw [w8, UInt8.toNat_ofNat']; rfl)
theorem Q_xor8 {a b : UInt8} (hx : ρ.ev x = some (w8 a)) (hy : ρ.ev y = some (w8 b)) : QOp P E n ⟨dst, .binOp .xor t x y t', ty, pos, after, g⟩ ρ L (w8 (a ^^^ b)) :=
 (Q_xorN a.toNat b.toNat hx hy rfl rfl a.toNat_lt b.toNat_lt).as (by rw [w8, UInt8.toNat_xor])
theorem Q_or8 {a b : UInt8} (hx : ρ.ev x = some (w8 a)) (hy : ρ.ev y = some (w8 b)) : QOp P E n ⟨dst, .binOp .or t x y t', ty, pos, after, g⟩ ρ L (w8 (a ||| b)) :=
 (Q_orN a.toNat b.toNat hx hy rfl rfl a.toNat_lt b.toNat_lt).as (by rw [w8, UInt8.toNat_or])
theorem Q_and8 {a b : UInt8} (hx : ρ.ev x = some (w8 a)) (hy : ρ.ev y = some (w8 b)) : QOp P E n ⟨dst, .binOp .and t x y t', ty, pos, after, g⟩ ρ L (w8 (a &&& b)) :=
 (Q_andN a.toNat b.toNat hx hy rfl rfl a.toNat_lt b.toNat_lt).as (by rw [w8, UInt8.toNat_and])
/-- An array that the program's own text laid. -/
structure Laid (E : World) (gl : Nat) (vs : List Value) : Prop where
 lt : gl < E.heap.size
 at_ : ∀ (j : Nat) u, vs[j]? = some u → E.cell? ⟨gl, j, none⟩ = some u
theorem Q_ldGl {gl sz by_ : Nat} {z : Value} {vs : List Value} {d : TypeDesc} [u : TyU P t d] [k : TyI P t sz z by_] (h : Laid E gl vs) (hd : isAggD d = true) (hl : vs.length = sz) : QOp P E n ⟨dst, .load t (.global gl), ty, pos, after, g⟩ ρ L (.agg vs.toArray) := fun c w ha hs => by
 obtain ⟨r, hr, hsz, _⟩ := k.get
 have h1 : (loadCells ⟨gl, 0, none⟩ sz).run P w = .ok vs.toArray w := by
  refine run_cells _ vs (fun j u hu => ?_) _ hl.symm
  rw [addr_add, Nat.zero_add, hs.old_cell (a := ⟨gl, j, none⟩) h.lt]
  exact h.at_ j u hu
 have e : c.eval (.global gl) = .pointer (some ⟨gl, 0, none⟩) := rfl
 simp only [execOp, e]
 simp [Instr.loadAt, Instr.sureAddr, loadVar, run_isAgg u.h, hd, sizeOf, typeInfo, hr, hsz, h1]
end
section
variable {α : Type} {τ : Ty α}
/-- A slice whose spare places are left out. -/
theorem own_cut {E : World} {S : SV} {l : List α} {h : Frag} (hs : slc τ true S l E h) : slc τ true ⟨S.a, S.n, S.n⟩ l E h := by
 obtain ⟨h1, h2, h3⟩ := hs
 refine ⟨h1, Nat.le_refl _, ?_⟩
 rcases h3 with ⟨ha, hc⟩ | ⟨_, _, hf, _⟩ | ⟨b, o, ha, hf, cs, fr, h4, h5, h6, h7, h8⟩
 ·exact .inl ⟨ha, by show S.n = 0; omega⟩
 ·cases hf
 ·refine .inr (.inr ⟨b, o, ha, hf, cs, fr, h4, h5, ?_, h7, by show S.n ≤ _; omega⟩)
  have := Nat.mul_le_mul_right τ.sz h2
  show o + S.n * τ.sz ≤ _; omega
theorem Ent.cut {S : SV} {l : List α} {L : List HProp} (i : Nat) (hi : L[i]? = some (slc τ true S l)) : Ent L (L.set i (slc τ true ⟨S.a, S.n, S.n⟩ l)) := fun _ _ h => h.map_at hi fun _ hc => own_cut hc
end
end Go.SL
/- Arrays of integers that came in; variables that the program's own text laid. -/
set_option autoImplicit false
namespace Go.SL
open Go.ChangeShapes Go.WideShapes Go.Deep Go.RowKit
section
variable {H : Type} {enc : TypeId × Value → H} {P : Program} {w W : World} {base b0 : Nat} {spare : Nat → Bool} {held : Bool}
/-- An array of integers: its cells. -/
theorem arr_ok {t e n : Nat} {k : IntKind} {fuel : Nat} {cs : List Value} {x : DataW H × List MemPlace} (ht : P.underlying t = some (.array n e)) (he : P.underlying e = some (.int k)) (hce : P.cellsOf e = 1) (hct : P.cellsOf t = n) (h : DataW.trod enc P w base spare held fuel t cs = some x) :
 ∀ m, m ≤ n → LeafsOk (List.replicate m (.int k)) (cs.drop (n - m)) := by
 obtain ⟨xs, f, _, _, hlen, hxl, hi⟩ := DataW.trod_array ht h
 rw [hct] at hlen
 intro m
 induction m with
 | zero => intro _; rw [Nat.sub_zero, List.drop_of_length_le (by omega)]; exact trivial
 | succ m ih =>
  intro hm
  have h1 := hi (n - (m + 1)) (by omega)
  rw [hce, Nat.mul_one, List.getElem?_eq_getElem (by omega)] at h1
  obtain ⟨z, e1, _, hw⟩ := DataW.trod_int he h1
  have hlt : n - (m + 1) < cs.length := by omega
  rw [List.drop_eq_getElem_cons hlt] at e1 ⊢
  rw [List.take_succ_cons, List.take_zero] at e1
  have e2 := (List.cons.inj e1).1
  rw [List.replicate_succ]
  refine ⟨⟨z, e2, hw⟩, ?_⟩
  have := ih (by omega)
  rwa [show n - m = n - (m + 1) + 1 by omega] at this
theorem arr_all {t e n : Nat} {k : IntKind} {fuel : Nat} {cs : List Value} {x : DataW H × List MemPlace} (ht : P.underlying t = some (.array n e)) (he : P.underlying e = some (.int k)) (hce : P.cellsOf e = 1) (hct : P.cellsOf t = n) (h : DataW.trod enc P w base spare held fuel t cs = some x) : LeafsOk (List.replicate n (.int k)) cs := by
 have := arr_ok ht he hce hct h n (Nat.le_refl n)
 rwa [Nat.sub_self, List.drop_zero] at this
theorem in_arr {r : Reach} {v : Value} {d : DataW H} {ps : List MemPlace} {t e n : Nat} {k : IntKind} (ht : P.underlying t = some (.array n e)) (he : P.underlying e = some (.int k)) (hce : P.cellsOf e = 1) (hct : P.cellsOf t = n) (hval : Value.okWide P W r b0 t v) (h : DataW.Trod enc P W base spare held t v d ps) : InStruct (List.replicate n (.int k)) v := by
 obtain ⟨cs, rfl, _⟩ : ∃ cs, v = .agg cs ∧ cs.size = P.cellsOf t := by
  simp only [Value.okWide, ht] at hval
  obtain ⟨cs, h1, h2, _⟩ := hval
  exact ⟨cs, h1, h2⟩
 obtain ⟨fuel, hf⟩ := h
 have := arr_all ht he hce hct hf
 exact ⟨cs.toList, by simp, by simpa [Value.cells] using this⟩
/-- A slice of slices of such arrays. -/
theorem in_rows2A {r : Reach} {v : Value} {d : DataW H} {ps : List MemPlace} {t e e2 e3 n : Nat} {k : IntKind} (ht : P.underlying t = some (.slice e)) (he : P.underlying e = some (.slice e2)) (he2 : P.underlying e2 = some (.array n e3)) (he3 : P.underlying e3 = some (.int k)) (h1 : P.cellsOf e = 1) (hc2 : P.cellsOf e2 = n) (hc3 : P.cellsOf e3 = 1) (hval : Value.okWide P W r b0 t v) (h : DataW.Trod enc P W base spare held t v d ps) : InRowsR W (CellRows W (List.replicate n (.int k))) v := by
 obtain ⟨a, m, c, rfl⟩ := okWide_slice ht hval
 obtain ⟨fuel, hf⟩ := h
 obtain ⟨S, rows, q1, q2⟩ := rows_okR (R := CellRows W (List.replicate n (.int k))) ht h1 (fun fuel cs x _ hx => by
  obtain ⟨S, rows, q1, q2⟩ := rows_okR (R := LeafsOk (List.replicate n (.int k))) he hc2 (fun fuel cs x _ hx => arr_all he2 he3 hc3 hc2 hx) hx
  exact ⟨S.v, q1, S, rows, rfl, q2⟩) hf
 simp only [Value.cells, List.cons.injEq, and_true] at q1
 exact ⟨S, rows, q1, q2⟩
/-- A table that the text laid. -/
theorem laid_of {name : String} {k : IntKind} {zs : List Int} {g : Nat} (h : Lib.TabIs P W name k zs) (hg : P.globalNamed name = some g) (hne : zs ≠ []) : Laid W g (zs.map fun z => .int k z) := by
 have hc : ∀ (j : Nat) u, (zs.map fun z => Value.int k z)[j]? = some u → W.cell? ⟨g, j, none⟩ = some u := fun j u hu => by
  rw [List.getElem?_map, Option.map_eq_some_iff] at hu
  obtain ⟨z, hz, rfl⟩ := hu
  have hlt := (List.getElem?_eq_some_iff.1 hz).1
  rw [h.cell hg j hlt, List.getD_eq_getElem?_getD, hz]; rfl
 refine ⟨?_, hc⟩
 cases zs with
 | nil => exact absurd rfl hne
 | cons z zs =>
  have := hc 0 (.int k z) rfl
  exact World.block_lt_of_cell? W _ this
end
end Go.SL
