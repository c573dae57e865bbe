/- What a disk is, in plain Lean: its bytes, how many are synced, what a crash does. -/
set_option autoImplicit false
namespace Go.Proofs

/-- A disk: its bytes, how many are synced. -/
structure Dk where
  b : List UInt8
  s : Nat

/-- Is the sector that holds byte i kept? -/
def kb (keep s i : Nat) : Bool := decide (i / 64 - s / 64 < 64) && (keep >>> (i / 64 - s / 64) % 2 == 1)
/-- The bytes when the first k that are not synced have been gone over. -/
def torn (keep s : Nat) (b : List UInt8) (k : Nat) : List UInt8 := b.mapIdx fun i x => if s ≤ i ∧ i < s + k ∧ kb keep s i = false then 0 else x
/-- Where what is there ends. -/
def endTo (keep s : Nat) : Nat → Nat
  | 0 => s
  | k + 1 => if kb keep s (s + k) = true then s + k + 1 else endTo keep s k

theorem torn_length (keep s : Nat) (b : List UInt8) (k : Nat) : (torn keep s b k).length = b.length := by simp [torn]
theorem torn_zero (keep s : Nat) (b : List UInt8) : torn keep s b 0 = b := by
  apply List.ext_getElem?; intro i
  simp only [torn, List.getElem?_mapIdx]
  cases b[i]? <;> simp <;> omega
theorem torn_kept (keep s : Nat) (b : List UInt8) (k : Nat) (h : kb keep s (s + k) = true) : torn keep s b (k + 1) = torn keep s b k := by
  apply List.ext_getElem?; intro i
  simp only [torn, List.getElem?_mapIdx]
  cases b[i]? with
  | none => rfl
  | some x =>
    simp only [Option.map_some, Option.some.injEq]
    by_cases e : i = s + k
    · subst e; simp [h]
    · have : (s ≤ i ∧ i < s + (k + 1) ∧ kb keep s i = false) ↔ (s ≤ i ∧ i < s + k ∧ kb keep s i = false) := by
        constructor <;> rintro ⟨h1, h2, h3⟩ <;> exact ⟨h1, by omega, h3⟩
      simp only [this]
theorem torn_lost (keep s : Nat) (b : List UInt8) (k : Nat) (h : kb keep s (s + k) = false) : torn keep s b (k + 1) = (torn keep s b k).set (s + k) 0 := by
  apply List.ext_getElem?; intro i
  rw [List.getElem?_set]
  simp only [torn, List.getElem?_mapIdx, List.length_mapIdx]
  by_cases e : s + k = i
  · subst e
    by_cases hl : s + k < b.length
    · simp [hl, h]
    · simp [hl]
  · simp only [e, if_false]
    cases b[i]? with
    | none => rfl
    | some x =>
      simp only [Option.map_some, Option.some.injEq]
      have : (s ≤ i ∧ i < s + (k + 1) ∧ kb keep s i = false) ↔ (s ≤ i ∧ i < s + k ∧ kb keep s i = false) := by
        constructor <;> rintro ⟨h1, h2, h3⟩ <;> exact ⟨h1, by omega, h3⟩
      simp only [this]
theorem endTo_le (keep s : Nat) : ∀ k, s ≤ endTo keep s k ∧ endTo keep s k ≤ s + k
  | 0 => ⟨Nat.le_refl _, Nat.le_refl _⟩
  | k + 1 => by
    have := endTo_le keep s k
    simp only [endTo]
    split <;> omega

/-- What a crash leaves. -/
def tear (d : Dk) (keep : Nat) : List UInt8 := (torn keep d.s d.b (d.b.length - d.s)).take (endTo keep d.s (d.b.length - d.s))

/-- What is done to a disk. -/
structure Ac where
  kind : Int
  text : List UInt8
  keep : Nat

def doD (d : Dk) (a : Ac) : Dk × Int :=
  if a.kind = 1 then if 65536 < d.b.length + a.text.length then (d, 2) else (⟨d.b ++ a.text, d.s⟩, 0)
  else if a.kind = 3 then (⟨tear d a.keep, (tear d a.keep).length⟩, 0)
  else if a.kind = 2 then (⟨d.b, d.b.length⟩, 0)
  else (d, 1)

def Dk.ok (d : Dk) : Prop := d.s ≤ d.b.length ∧ d.b.length ≤ 65536

theorem tear_length (d : Dk) (keep : Nat) (h : d.s ≤ d.b.length) : d.s ≤ (tear d keep).length ∧ (tear d keep).length ≤ d.b.length := by
  have := endTo_le keep d.s (d.b.length - d.s)
  simp [tear, torn_length]; omega

theorem doD_ok (d : Dk) (a : Ac) (h : d.ok) : (doD d a).1.ok := by
  obtain ⟨h1, h2⟩ := h
  have := tear_length d a.keep h1
  unfold doD Dk.ok
  repeat' split
  all_goals simp; omega
end Go.Proofs
