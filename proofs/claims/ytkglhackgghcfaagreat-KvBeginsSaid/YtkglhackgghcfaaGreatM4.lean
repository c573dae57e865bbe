/- Part 4 of the texts below the row: Sl10, Sl24. -/
import Derived.WalkKit
import Derived.ProofKit
import Derived.OpenShut
import Derived.ShutString
import Derived.ChangeOld
import Derived.ChangeKeysEq
import Derived.Test.YtkglhackgghcfaaGreatM3
/- The arguments of a row, each opened as what it is. -/
set_option autoImplicit false
namespace Go.SL
open Go.ChangeShapes Go.WideShapes Go.Deep Go.RowKit

/-- What came in: a value of leafs. -/
def InStruct (ls : List Leaf) (v : Value) : Prop := ∃ vs : List Value, v = .agg vs.toArray ∧ LeafsOk ls vs
/-- What came in: rows of leafs. -/
def InRows (W : World) (ls : List Leaf) (v : Value) : Prop := ∃ (S : SV) (rows : List (List Value)), v = S.v ∧ S.n = rows.length ∧ S.n ≤ S.c ∧ S.c ≤ maxLen ∧ (∀ r ∈ rows, LeafsOk ls r) ∧
  ((S.a = none ∧ S.c = 0) ∨ ∃ a, S.a = some a ∧ ∀ (j : Nat) u, rows.flatten[j]? = some u → a.block < W.heap.size ∧ W.cell? (a.add j) = some u)

section
variable {H : Type} {enc : TypeId × Value → H} {P : Program} {W : World} {base b0 : Nat} {spare : Nat → Bool} {held : Bool} {r : Reach} {t : TypeId} {v : Value} {d : DataW H} {ps : List MemPlace}
theorem in_int {k : IntKind} (ht : P.underlying t = some (.int k)) (hval : Value.okWide P W r b0 t v) (h : DataW.Trod enc P W base spare held t v d ps) : ∃ n, v = .int k n ∧ (Lit.int k n).wf = true := by
  obtain ⟨n, rfl, _, _, hw⟩ := open_int ht hval h; exact ⟨n, rfl, hw⟩
theorem in_bool (ht : P.underlying t = some .bool) (hval : Value.okWide P W r b0 t v) : ∃ b, v = .bool b := okWide_bool ht hval
theorem in_str (ht : P.underlying t = some .string) (hval : Value.okWide P W r b0 t v) (h : DataW.Trod enc P W base spare held t v d ps) : ∃ l : List UInt8, v = SL.str l ∧ l.length ≤ maxLen := by
  obtain ⟨s, rfl⟩ := okWide_string ht hval
  obtain ⟨fuel, hf⟩ := h
  obtain ⟨s', hs, _, hw⟩ := DataW.trod_string ht hf
  simp only [Value.cells, List.cons.injEq, Value.string.injEq, and_true] at hs
  subst hs
  exact ⟨s.data.toList, by cases s; simp [SL.str], by rw [Array.length_toList]; exact hw⟩
theorem in_struct {fs : Array Field} {dep : Nat} {ls : List Leaf} (ht : P.underlying t = some (.struct fs)) (hl : leafsOf P dep t = some ls) (hval : Value.okWide P W r b0 t v) (h : DataW.Trod enc P W base spare held t v d ps) : InStruct ls v := by
  obtain ⟨cs, rfl, _⟩ := okWide_struct ht hval
  obtain ⟨fuel, hf⟩ := h
  have := leafs_ok dep t ls fuel _ _ hl hf
  exact ⟨cs.toList, by simp, by simpa [Value.cells] using this⟩
theorem in_rows {e dep : Nat} {ls : List Leaf} (ht : P.underlying t = some (.slice e)) (hl : leafsOf P dep e = some ls) (hc : P.cellsOf e = ls.length) (hval : Value.okWide P W r b0 t v) (h : DataW.Trod enc P W base spare held t v d ps) : InRows W ls v := by
  obtain ⟨a, n, c, rfl⟩ := okWide_slice ht hval
  obtain ⟨rows, h1, h2, h3, h4, h5, _⟩ := rows_ok (S := ⟨a, n, c⟩) ht hl hc h
  exact ⟨⟨a, n, c⟩, rows, rfl, h1, h2, h3, h4, h5⟩
end

/-- Rows that came in, as a chunk. -/
theorem InRows.slc {α : Type} (τ : Ty α) {W : World} {ls : List Leaf} {v : Value} (h : InRows W ls v) {ok : α → Prop} (h4 : ∀ r, LeafsOk ls r → ∃ a, r = τ.enc a ∧ ok a) :
    ∃ (S : SV) (l : List α), v = S.v ∧ l.length = S.n ∧ l.length ≤ maxLen ∧ (∀ a ∈ l, ok a) ∧ ∀ g, slc τ false S l W g := by
  obtain ⟨S, rows, rfl, h1, h2, h3, h5, h6⟩ := h
  obtain ⟨l, l1, l2, l3⟩ := slc_of_rows τ (ok := ok) h1 h2 h6 (fun r hr => h4 r (h5 r hr))
  exact ⟨S, l, rfl, l1, by omega, l2, l3⟩
theorem leafs_int {k : IntKind} {ls : List Leaf} {vs : List Value} (h : LeafsOk (.int k :: ls) vs) : ∃ n r, vs = .int k n :: r ∧ (Lit.int k n).wf = true ∧ LeafsOk ls r := by
  cases vs with
  | nil => exact h.elim
  | cons v r => obtain ⟨⟨n, rfl, hw⟩, h2⟩ := h; exact ⟨n, r, rfl, hw, h2⟩
theorem leafs_str {ls : List Leaf} {vs : List Value} (h : LeafsOk (.str :: ls) vs) : ∃ (l : List UInt8) (r : List Value), vs = SL.str l :: r ∧ l.length ≤ maxLen ∧ LeafsOk ls r := by
  cases vs with
  | nil => exact h.elim
  | cons v r => obtain ⟨⟨n, rfl, hw⟩, h2⟩ := h; exact ⟨n, r, rfl, hw, h2⟩
theorem leafs_bool {ls : List Leaf} {vs : List Value} (h : LeafsOk (.bool :: ls) vs) : ∃ (b : Bool) (r : List Value), vs = .bool b :: r ∧ LeafsOk ls r := by
  cases vs with
  | nil => exact h.elim
  | cons v r => obtain ⟨⟨n, rfl⟩, h2⟩ := h; exact ⟨n, r, rfl, h2⟩
theorem leafs_nil {vs : List Value} (h : LeafsOk [] vs) : vs = [] := by
  cases vs with
  | nil => rfl
  | cons v r => exact h.elim
theorem wf_i64 {n : Int} (h : (Lit.int .i64 n).wf = true) : -9223372036854775808 ≤ n ∧ n ≤ 9223372036854775807 := by
  simp [Lit.wf, IntKind.min, IntKind.max, IntKind.bits, IntKind.signed] at h
  omega
theorem wf_u64 {n : Int} (h : (Lit.int .u64 n).wf = true) : ∃ k : Nat, n = (k : Int) ∧ k < 2 ^ 64 := by
  have : 0 ≤ n ∧ n < 18446744073709551616 := by
    simp [Lit.wf, IntKind.min, IntKind.max, IntKind.bits, IntKind.signed] at h
    omega
  exact ⟨n.toNat, by omega, by omega⟩
end Go.SL
/- Interface values: made, their methods called. -/
set_option autoImplicit false
namespace Go.SL
/-- A struct type's own method, by value. -/
structure MetFn (P : Program) (t : Nat) (name : String) (f : Nat) : Prop where
  m : ((P.info? t).bind fun i => (i.methods.find? (·.name == name)).map fun m => (m.path.toList, m.func)) = some ([], some (f, false))
  u : (match P.underlying t with | some (.struct _) => true | _ => false) = true
theorem MetFn.un {P : Program} {t f : Nat} {name : String} (h : MetFn P t name f) : ∃ fs, P.underlying t = some (.struct fs) := by
  have := h.u
  split at this
  · rename_i fs e; exact ⟨fs, e⟩
  · cases this
theorem MetFn.get {P : Program} {t f : Nat} {name : String} (h : MetFn P t name f) : ∃ i m, P.info? t = some i ∧ i.methods.find? (·.name == name) = some m ∧ m.path.toList = [] ∧ m.func = some (f, false) := by
  have := h.m
  cases e : P.info? t with
  | none => rw [e] at this; cases this
  | some i =>
    rw [e] at this
    simp only [Option.bind_some] at this
    cases e2 : i.methods.find? (·.name == name) with
    | none => rw [e2] at this; cases this
    | some m =>
      rw [e2] at this
      simp only [Option.map_some, Option.some.injEq, Prod.mk.injEq] at this
      exact ⟨i, m, rfl, e2, this.1, this.2⟩
theorem run_method {P : Program} {t f : Nat} {name : String} (h : MetFn P t name f) (k : Nat) (v : Value) (w : World) : (method (k + 1) t v name).run P w = .ok (f, v) w := by
  obtain ⟨i, m, h1, h2, h3, h4⟩ := h.get
  obtain ⟨fs, h5⟩ := h.un
  unfold method
  simp only [Sem.run_bind, run_typeInfo w h1, Result.andThen_ok, h2, h3, h4, follow, Sem.run_pure, receiverAt, run_underlying h5, Place.get]
theorem run_nilAhead {P : Program} {t f : Nat} {name : String} (h : MetFn P t name f) (k : Nat) (v : Value) (w : World) : (nilAhead (k + 1) t v name).run P w = .ok (some false) w := by
  obtain ⟨i, m, h1, h2, h3, h4⟩ := h.get
  obtain ⟨fs, h5⟩ := h.un
  unfold nilAhead
  simp only [Sem.run_bind, run_typeInfo w h1, Result.andThen_ok, h2, h3, h4, followBlind, Sem.run_pure, run_underlying h5]
section
variable {P : Program} {E : World} {n : Nat} {ρ : Env} {L : List HProp} {dst : Option Tmp} {ty : TypeId} {pos : String} {after : Array Edge} {g : Option (Nat × Bool)}
theorem Q_mkIface {t : Nat} {x : Operand} {v : Value} {fs : Array Field} [u : TyU P t (.struct fs)] (hx : ρ.ev x = some v) : QOp P E n ⟨dst, .makeInterface t x, ty, pos, after, g⟩ ρ L (.iface t v) := fun a w ha _ => by
  simp only [execOp, ha.ev hx, Instr.makeInterface, Sem.run_bind, run_underlying u.h, Result.andThen_ok, Sem.run_pure]
theorem Q_nilMeth {t f : Nat} {name : String} {x : Operand} {v : Value} {cs : Array Value} (h : MetFn P t name f) (hx : ρ.ev x = some (.func (.method name) #[.iface t v] cs)) : QOp P E n ⟨dst, .nilCheck x, ty, pos, after, g⟩ ρ L (.func (.method name) #[.iface t v] cs) := fun a w ha _ => by
  have h1 := run_nilAhead h (P.types.size + Made.depth - 1) v w
  have h2 : P.types.size + Made.depth - 1 + 1 = P.types.size + Made.depth := by unfold Made.depth; omega
  rw [h2] at h1
  simp only [execOp, ha.ev hx]
  simp only [List.getElem?_toArray, List.getElem?_cons_zero]
  simp [Sem.run_bind, h1, run_program]
/-- A method of an interface value called. -/
theorem O_invoke {t f : Nat} {name : String} {x : Operand} {xs : List Operand} {ts : Array TypeId} {v : Value} {vs : List Value} {K K' : Value → List HProp → Prop} {pre R : List HProp} (idx ridx : List Nat) [hf : HasFn P f] (hm : MetFn P t name f) (hxf : ρ.ev x = some (.iface t v)) (hx : ρ.evs xs = some vs)
    (hc : Does P E f (v :: vs) pre K')
    (hi : okIdx L.length (idx ++ ridx) = true) [hp : NormL (pick idx L) pre] [hR : NormL (pick ridx L) R]
    (hK : ∀ v L', K' v L' → K v (L' ++ R)) : JOp P E n ⟨dst, .call ⟨.invoke x name, xs.toArray, ts⟩, ty, pos, after, g⟩ K ρ L := fun a w ha hs next Q hn => by
  have h1 : Sat E w (pre ++ R) := by
    rw [← hp.h, ← hR.h]
    have := hs.pick _ hi
    rw [SL.pick, List.map_append] at this
    exact this
  have h2 := hc (stars R) w h1.fold
  unfold Oper.wp
  simp only [execOp, resolve]
  have e1 : (xs.toArray.map a.eval) = vs.toArray := by simp [← ha.evs hx]
  have e3 := run_method hm (P.types.size + Made.depth - 1) v w
  have e4 : P.types.size + Made.depth - 1 + 1 = P.types.size + Made.depth := by unfold Made.depth; omega
  rw [e4] at e3
  have e5 : (#[Value.iface t v] ++ vs.toArray)[0]? = some (.iface t v) := by simp
  have e6 : (#[Value.iface t v] ++ vs.toArray).extract 1 (#[Value.iface t v] ++ vs.toArray).size = vs.toArray := by simp
  have e7 : (#[v] ++ vs.toArray) = (v :: vs).toArray := by simp
  simp only [e1, ha.ev hxf, run_bind_pure, invoke, e5, e6, callMethod]
  have e8 : ((do let (f, receiver) ← method ((← program).types.size + Made.depth) t v name; callFunc f (#[receiver] ++ vs.toArray) : Sem Next)).run P w = .ok (.enter f (v :: vs).toArray) w := by
    simp only [Sem.run_bind, run_program, Result.andThen_ok, e3, run_callFunc hf, e7]
  rw [e8]
  simp only [Oper.upon_enter]
  refine h2.mono ?_
  rintro e w' ⟨v, L', rfl, hk, hs'⟩
  exact hn v _ w' (hK v L' hk) hs'.unfold
end
end Go.SL
