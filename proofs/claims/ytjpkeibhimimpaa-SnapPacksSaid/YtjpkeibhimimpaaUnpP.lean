/- Pairs unpacked, in plain Lean. -/
import Derived.Test.YtjpkeibhimimpaaPackr
set_option autoImplicit false
namespace Go.Proofs
open Go.SL
def badK (prev : Option (List UInt8)) (k : List UInt8) : Bool := match prev with
  | none => false
  | some q => !(Op.bytesLess q k)
def unp : Option (List UInt8) → List (List UInt8) → Option (List Pr)
  | _, [] => some []
  | _, [_] => none
  | prev, k :: v :: r => if badK prev k = true then none else (unp (some k) r).map ((k, v) :: ·)
def unpT (s : List UInt8) : Option (List Pr) := (readT s).bind (unp none)
def unpL (s : List UInt8) : List Pr := (unpT s).getD []
def unpE (s : List UInt8) : Int := if (unpT s).isNone then 3 else 0
theorem unp_odd (n : Nat) : ∀ (p : Option (List UInt8)) (l : List (List UInt8)), l.length ≤ n → l.length % 2 = 1 → unp p l = none := by
  induction n with
  | zero => intro p l h1 h2; omega
  | succ n ih =>
    intro p l h1 h2
    match l, h1, h2 with
    | [_], _, _ => rfl
    | k :: v :: r, h1, h2 =>
      simp only [List.length_cons] at h1 h2
      simp only [unp]
      rw [ih _ r (by omega) (by omega)]
      simp
theorem unpT_none {s : List UInt8} (h : readT s = none) : unpT s = none := by unfold unpT; rw [h]; rfl
theorem unpT_some {s : List UInt8} {l : List (List UInt8)} (h : readT s = some l) : unpT s = unp none l := by unfold unpT; rw [h]; rfl
theorem readT_len (n : Nat) : ∀ (s : List UInt8) (l : List (List UInt8)), s.length ≤ n → readT s = some l → l.length ≤ s.length := by
  induction n with
  | zero => intro s l h1 h2; obtain rfl : s = [] := List.eq_nil_of_length_eq_zero (by omega); rw [readT_nil] at h2; cases h2; simp
  | succ n ih =>
    intro s l h1 h2
    by_cases hs : s = []
    · subst hs; rw [readT_nil] at h2; cases h2; simp
    · cases hx : nextT s with
      | none => rw [readT_none hs hx] at h2; cases h2
      | some tr =>
        obtain ⟨t, r⟩ := tr
        rw [readT_some hs hx] at h2
        have := nextT_lt hx
        cases hr : readT r with
        | none => rw [hr] at h2; cases h2
        | some l' =>
          rw [hr] at h2
          cases h2
          have := ih r l' (by omega) hr
          simp only [List.length_cons]; omega
theorem readL_len (s : List UInt8) : (readL s).length ≤ s.length := by
  unfold readL
  cases h : readT s with
  | none => simp
  | some l => exact readT_len _ s l (Nat.le_refl _) h
def lastK (out : List Pr) : Option (List UInt8) := out.getLast?.map (·.1)
theorem lastK_snoc (out : List Pr) (p : Pr) : lastK (out ++ [p]) = some p.1 := by simp [lastK]
theorem lastK_at (out : List Pr) (j : Nat) (h : out.length = j + 1) : lastK out = some (out[j]'(by omega)).1 := by
  unfold lastK
  rw [List.getLast?_eq_getElem?, show out.length - 1 = j by omega, List.getElem?_eq_getElem (by omega)]; rfl
theorem leq_eq : ∀ (a b : List UInt8), (Op.bytesLess b a || b == a) = !(Op.bytesLess a b)
  | [], [] => rfl
  | [], _ :: _ => rfl
  | _ :: _, [] => rfl
  | x :: a, y :: b => by
    have ih := leq_eq a b
    simp only [Op.bytesLess, List.cons_beq_cons]
    by_cases h : x = y
    · subst h
      have h1 : ¬ x < x := UInt8.lt_irrefl x
      simp [h1, ih]
    · have h' : ¬ y = x := fun e => h e.symm
      by_cases h2 : x < y
      · have h3 : ¬ y < x := UInt8.lt_asymm h2
        simp [h, h', h2, h3]
      · have h3 : y < x := UInt8.lt_of_le_of_ne (UInt8.not_lt.1 h2) h'
        simp [h, h', h2, h3]
end Go.Proofs
