/- The sum of a text, in plain Lean, and that one byte's change changes it. -/
set_option autoImplicit false
namespace Go.Proofs
def crcStep (c : Nat) : Nat := (c / 2) ^^^ (if c % 2 = 1 then 2197175160 else 0)
def crcN : Nat → Nat → Nat
  | 0, c => c
  | k + 1, c => crcStep (crcN k c)
def crcB (c : Nat) (b : UInt8) : Nat := crcN 8 (c ^^^ b.toNat)
def crcMore (c : Nat) (s : List UInt8) : Nat := s.foldl crcB c
def crc (s : List UInt8) : Nat := 4294967295 ^^^ crcMore 4294967295 s

theorem crcStep_lt (c : Nat) (h : c < 2 ^ 32) : crcStep c < 2 ^ 32 := by
  unfold crcStep
  refine Nat.xor_lt_two_pow (by omega) ?_
  split <;> decide
theorem crcN_lt (k c : Nat) (h : c < 2 ^ 32) : crcN k c < 2 ^ 32 := by
  induction k with
  | zero => exact h
  | succ k ih => exact crcStep_lt _ ih
theorem crcB_lt (c : Nat) (b : UInt8) (h : c < 2 ^ 32) : crcB c b < 2 ^ 32 :=
  crcN_lt _ _ (Nat.xor_lt_two_pow h (by have := b.toNat_lt; omega))
theorem crcMore_lt (s : List UInt8) : ∀ c, c < 2 ^ 32 → crcMore c s < 2 ^ 32 := by
  induction s with
  | nil => intro c h; exact h
  | cons b s ih => intro c h; exact ih _ (crcB_lt c b h)
theorem crc_lt (s : List UInt8) : crc s < 2 ^ 32 := Nat.xor_lt_two_pow (by decide) (crcMore_lt s _ (by decide))
theorem crcMore_take (c : Nat) (s : List UInt8) (k : Nat) (h : k < s.length) : crcMore c (s.take (k + 1)) = crcB (crcMore c (s.take k)) s[k] := by
  unfold crcMore
  rw [List.take_succ_eq_append_getElem h, List.foldl_append]
  rfl
theorem crcMore_append (c : Nat) (s t : List UInt8) : crcMore c (s ++ t) = crcMore (crcMore c s) t := by
  unfold crcMore; rw [List.foldl_append]

theorem xor_cancel {a b p : Nat} (h : a ^^^ p = b ^^^ p) : a = b := by
  have := congrArg (· ^^^ p) h
  simpa [Nat.xor_assoc] using this
theorem xor_cancel_left {a b p : Nat} (h : p ^^^ a = p ^^^ b) : a = b := by
  rw [Nat.xor_comm p a, Nat.xor_comm p b] at h
  exact xor_cancel h
theorem crcStep_inj (c d : Nat) (hc : c < 2 ^ 32) (hd : d < 2 ^ 32) (h : crcStep c = crcStep d) : c = d := by
  unfold crcStep at h
  have key : ∀ a b : Nat, a < 2 ^ 31 → b < 2 ^ 31 → a ^^^ 2197175160 = b ^^^ 0 → False := by
    intro a b ha hb h
    have h2 : (2197175160 : Nat) = a ^^^ b := by
      rw [Nat.xor_zero] at h
      rw [← h, ← Nat.xor_assoc, Nat.xor_self, Nat.zero_xor]
    have h3 : a ^^^ b < 2 ^ 31 := Nat.xor_lt_two_pow ha hb
    rw [← h2] at h3
    exact absurd h3 (by decide)
  split at h <;> split at h
  · have := xor_cancel h; omega
  · exact (key _ _ (by omega) (by omega) h).elim
  · exact (key _ _ (by omega) (by omega) h.symm).elim
  · have := xor_cancel h; omega
theorem crcN_inj (k : Nat) : ∀ c d : Nat, c < 2 ^ 32 → d < 2 ^ 32 → crcN k c = crcN k d → c = d := by
  induction k with
  | zero => intro c d _ _ h; exact h
  | succ k ih => intro c d hc hd h; exact ih c d hc hd (crcStep_inj _ _ (crcN_lt k c hc) (crcN_lt k d hd) h)
theorem crcMore_inj (s : List UInt8) : ∀ c d : Nat, c < 2 ^ 32 → d < 2 ^ 32 → crcMore c s = crcMore d s → c = d := by
  induction s with
  | nil => intro c d _ _ h; exact h
  | cons b s ih =>
    intro c d hc hd h
    have h1 := ih _ _ (crcB_lt c b hc) (crcB_lt d b hd) h
    have hb : b.toNat < 2 ^ 32 := by have := b.toNat_lt; omega
    exact xor_cancel (crcN_inj 8 _ _ (Nat.xor_lt_two_pow hc hb) (Nat.xor_lt_two_pow hd hb) h1)
theorem crcB_inj (c : Nat) (b d : UInt8) (hc : c < 2 ^ 32) (h : crcB c b = crcB c d) : b = d := by
  have hb : b.toNat < 2 ^ 32 := by have := b.toNat_lt; omega
  have hd : d.toNat < 2 ^ 32 := by have := d.toNat_lt; omega
  have := xor_cancel_left (crcN_inj 8 _ _ (Nat.xor_lt_two_pow hc hb) (Nat.xor_lt_two_pow hc hd) h)
  exact UInt8.toNat_inj.1 this
/-- One byte's change changes the sum. -/
theorem crc_set (s : List UInt8) (k : Nat) (b : UInt8) (hk : k < s.length) (hb : b ≠ s[k]) : crc (s.set k b) ≠ crc s := by
  intro h
  have h1 := xor_cancel_left h
  have e1 : s = s.take k ++ s[k] :: s.drop (k + 1) := by rw [List.getElem_cons_drop, List.take_append_drop]
  have e2 : s.set k b = s.take k ++ b :: s.drop (k + 1) := by rw [List.set_eq_take_append_cons_drop, if_pos hk]
  rw [e2] at h1
  have h2 : crcMore 4294967295 s = crcMore 4294967295 (s.take k ++ s[k] :: s.drop (k + 1)) := congrArg _ e1
  rw [h2, crcMore_append, crcMore_append] at h1
  have hlt := crcMore_lt (s.take k) 4294967295 (by decide)
  exact hb (crcB_inj _ _ _ hlt (crcMore_inj _ _ _ (crcB_lt _ _ hlt) (crcB_lt _ _ hlt) h1))
end Go.Proofs
