/- Structs compared. -/
import Derived.Test.YtihlnjafeocbnaaSl13
set_option autoImplicit false
namespace Go.SL
section
variable {P : Program} {d t : Nat} {xs ys : Array Value}
inductive EqF (P : Program) (d : Nat) (xs ys : Array Value) : List (Nat × Nat) → Bool → Prop
  | nil : EqF P d xs ys [] true
  | cons {ty off : Nat} {fs : List (Nat × Nat)} {r' : Bool} (a b : Value) {d' : TypeDesc} {r : Bool} (u : P.underlying ty = some d') (hd : isAggD d' = false) (ha : xs[off]? = some a) (hb : ys[off]? = some b) (h : EqV P ty d a b r) (h' : EqF P d xs ys fs r') : EqF P d xs ys ((ty, off) :: fs) (r && r')
theorem EqF.run {fs : List Field} {l : List (Nat × Nat)} {b : Bool} (hl : l = fs.map fun f => (f.type, f.offset)) (hn : fs.all (fun f => decide (f.name ≠ "_")) = true) (h : EqF P d xs ys l b) (w : World) : (Op.eqFields d xs ys fs).run P w = .ok b w := by
  induction fs generalizing l b with
  | nil => subst hl; cases h; simp [Op.eqFields]
  | cons f fs ih =>
    subst hl
    rw [List.map_cons] at h
    simp only [List.all_cons, Bool.and_eq_true, decide_eq_true_eq] at hn
    cases h with
    | cons a b u hd ha hb h1 h2 =>
      have e1 : (part f.type xs f.offset).run P w = .ok a w := by simp [part, run_isAgg u, hd, ha]
      have e2 : (part f.type ys f.offset).run P w = .ok b w := by simp [part, run_isAgg u, hd, hb]
      simp only [Op.eqFields, if_pos hn.1, Sem.run_bind, e1, e2, h1.h w, Result.andThen_ok]
      split
      · rename_i h3; simp only [Bool.not_eq_true'] at h3; rw [h3]; simp
      · rename_i h3; simp only [Bool.not_eq_true', Bool.not_eq_false] at h3; rw [h3, Bool.true_and]; exact ih rfl hn.2 h2
theorem EqV_struct {b : Bool} (l : List (Nat × Nat)) (ht : P.underlying t = some (.struct (P.fieldsOf t))) (hp : P.stoodInHeld t = false) (hl : l = (P.fieldsOf t).toList.map fun f => (f.type, f.offset)) (hn : (P.fieldsOf t).toList.all (fun f => decide (f.name ≠ "_")) = true) (h : EqF P d xs ys l b) :
    EqV P t (d + 1) (.agg xs) (.agg ys) b := ⟨fun w => by rw [run_equalIn_struct w d t xs ys ht hp]; exact h.run hl hn w⟩
end
end Go.SL
