/- Part 18 of the texts below the row: EcP, FldP, InvP, Num15. -/
import Derived.Test.YtdggicfcpcjjlaaGreatDoorM1
import Derived.Test.YtdggicfcpcjjlaaGreatDoorM10
import Derived.Test.YtdggicfcpcjjlaaGreatDoorM13
import Derived.Test.YtdggicfcpcjjlaaGreatDoorM16
import Derived.Test.YtdggicfcpcjjlaaGreatDoorM17
/- The law of a cubic's points, plainly: three points on a line; the sum; that it is associative. -/
set_option autoImplicit false
namespace Go.Ec
variable {n : Nat} [NeZero n]
theorem sub_z {a b : Fin n} (h : a - b = 0) : a = b := by grobner
theorem z_sub {a b : Fin n} (h : a = b) : a - b = 0 := by grobner
structure Af (n : Nat) where
 x : Fin n
 y : Fin n
def Af.neg (A : Af n) : Af n := ⟨A.x, -A.y⟩
section
variable (a b : Fin n)
def On (A : Af n) : Prop := A.y * A.y = A.x * A.x * A.x + a * A.x + b
/-- Three points (as often as they count) of the line y = l x + v. -/
structure Col (l v : Fin n) (A B C : Af n) : Prop where
 ya : A.y = l * A.x + v
 yb : B.y = l * B.x + v
 yc : C.y = l * C.x + v
 e1 : A.x + B.x + C.x = l * l
 e2 : A.x * B.x + A.x * C.x + B.x * C.x = a - 2 * l * v
 e3 : A.x * B.x * C.x = v * v - b
end
variable {a b : Fin n}
theorem Af.neg_neg (A : Af n) : A.neg.neg = A := by
 obtain ⟨x, y⟩ := A
 show Af.mk x (- -y) = Af.mk x y
 rw [show - -y = y by grobner]
omit [NeZero n] in
theorem Af.ext {A B : Af n} (h1 : A.x = B.x) (h2 : A.y = B.y) : A = B := by
 obtain ⟨x, y⟩ := A
 obtain ⟨x', y'⟩ := B
 dsimp only at h1 h2
 rw [h1, h2]
theorem Col.swap {l v : Fin n} {A B C : Af n} (h : Col a b l v A B C) : Col a b l v B A C := by
 obtain ⟨h1, h2, h3, h4, h5, h6⟩ := h
 exact ⟨h2, h1, h3, by rw [← h4]; grobner, by rw [← h5]; grobner, by rw [← h6]; grobner⟩
theorem Col.turn {l v : Fin n} {A B C : Af n} (h : Col a b l v A B C) : Col a b l v B C A := by
 obtain ⟨h1, h2, h3, h4, h5, h6⟩ := h
 exact ⟨h2, h3, h1, by rw [← h4]; grobner, by rw [← h5]; grobner, by rw [← h6]; grobner⟩
theorem Col.neg {l v : Fin n} {A B C : Af n} (h : Col a b l v A B C) : Col a b (-l) (-v) A.neg B.neg C.neg := by
 obtain ⟨h1, h2, h3, h4, h5, h6⟩ := h
 refine ⟨?_, ?_, ?_, ?_, ?_, ?_⟩
 ·show -A.y = -l * A.x + -v
  rw [h1]; grobner
 ·show -B.y = -l * B.x + -v
  rw [h2]; grobner
 ·show -C.y = -l * C.x + -v
  rw [h3]; grobner
 ·show A.x + B.x + C.x = _
  rw [h4]; grobner
 ·show A.x * B.x + A.x * C.x + B.x * C.x = _
  rw [h5]; grobner
 ·show A.x * B.x * C.x = _
  rw [h6]; grobner
/-- The cubic along the line. -/
theorem Col.cubic {l v : Fin n} {A B C : Af n} (h : Col a b l v A B C) (x : Fin n) : x * x * x + a * x + b - (l * x + v) * (l * x + v) = (x - A.x) * (x - B.x) * (x - C.x) := by
 have h4 := h.e1; have h5 := h.e2; have h6 := h.e3
 have : (x - A.x) * (x - B.x) * (x - C.x) = x * x * x - (A.x + B.x + C.x) * (x * x) + (A.x * B.x + A.x * C.x + B.x * C.x) * x - A.x * B.x * C.x := by grobner
 rw [this, h4, h5, h6]; grobner
theorem Col.on {l v : Fin n} {A B C : Af n} (h : Col a b l v A B C) : On a b A := by
 have h1 := h.cubic A.x
 unfold On
 rw [h.ya]
 have : (A.x - A.x) * (A.x - B.x) * (A.x - C.x) = 0 := by grobner
 rw [this] at h1
 exact (sub_z h1).symm
/-- On the line: one of the three. -/
theorem Col.which (hz : ∀ u v : Fin n, u * v = 0 → u = 0 ∨ v = 0) {l v : Fin n} {A B C Q : Af n} (h : Col a b l v A B C) (hQ : On a b Q) (hl : Q.y = l * Q.x + v) : Q = A ∨ Q = B ∨ Q = C := by
 have h1 := h.cubic Q.x
 rw [← hl, ← hQ] at h1
 have h2 : (Q.x - A.x) * (Q.x - B.x) * (Q.x - C.x) = 0 := by rw [← h1]; grobner
 rcases hz _ _ h2 with h3 | h3
 ·rcases hz _ _ h3 with h3 | h3
  ·left; have e := sub_z h3; exact Af.ext e (by rw [hl, h.ya, e])
  ·right; left; have e := sub_z h3; exact Af.ext e (by rw [hl, h.yb, e])
 ·right; right; have e := sub_z h3; exact Af.ext e (by rw [hl, h.yc, e])
/-- The slope where two of them are one. -/
theorem Col.slope2 {l v : Fin n} {A C : Af n} (h : Col a b l v A A C) : 2 * A.y * l = 3 * A.x * A.x + a := by
 have h4 := h.e1; have h5 := h.e2
 rw [h.ya]
 have e : C.x = l * l - 2 * A.x := by rw [← h4]; grobner
 rw [e] at h5
 have : a = A.x * A.x + A.x * (l * l - 2 * A.x) + A.x * (l * l - 2 * A.x) + 2 * l * v := by rw [h5]; grobner
 rw [this]; grobner
/-- A field, of odd characteristic. -/
structure Fld (n : Nat) [NeZero n] : Prop where
 z : ∀ u v : Fin n, u * v = 0 → u = 0 ∨ v = 0
 inv : ∀ u : Fin n, u ≠ 0 → ∃ v, u * v = 1
 two : (2 : Fin n) ≠ 0
def Opp (A B : Af n) : Prop := A.x = B.x ∧ A.y = -B.y
theorem Fld.can (K : Fld n) {u v w : Fin n} (hu : u ≠ 0) (h : u * v = u * w) : v = w := by
 have : u * (v - w) = 0 := by
  have h1 : u * (v - w) = u * v - u * w := by grobner
  rw [h1, h]; grobner
 rcases K.z _ _ this with h1 | h1
 ·exact absurd h1 hu
 ·exact sub_z h1
theorem Fld.self (K : Fld n) {y : Fin n} (h : y = -y) : y = 0 := by
 have : 2 * y = 0 := by
  have h1 : 2 * y = y - -y := by grobner
  rw [h1, ← h]; grobner
 rcases K.z _ _ this with h1 | h1
 ·exact absurd h1 K.two
 ·exact h1
theorem On.neg {A : Af n} (h : On a b A) : On a b A.neg := by
 unfold On at *
 show -A.y * -A.y = A.x * A.x * A.x + a * A.x + b
 rw [← h]; grobner
theorem On.opp (K : Fld n) {A B : Af n} (hA : On a b A) (hB : On a b B) (hx : A.x = B.x) : A = B ∨ Opp A B := by
 unfold On at hA hB
 rw [hx, ← hB] at hA
 have : (A.y - B.y) * (A.y + B.y) = 0 := by
  have h1 : (A.y - B.y) * (A.y + B.y) = A.y * A.y - B.y * B.y := by grobner
  rw [h1, hA]; grobner
 rcases K.z _ _ this with h1 | h1
 ·left; exact Af.ext hx (sub_z h1)
 ·right
  refine ⟨hx, ?_⟩
  have h2 : A.y = (A.y + B.y) - B.y := by grobner
  rw [h2, h1]; grobner
/-- Two points that are not opposite tell the line, and the third. -/
theorem Col.uniq (K : Fld n) {l v l' v' : Fin n} {A B C C' : Af n} (h : Col a b l v A B C) (h' : Col a b l' v' A B C') (ho : ¬ Opp A B) : l = l' ∧ v = v' ∧ C = C' := by
 have hl : l = l' := by
  by_cases hx : A.x = B.x
  ·have hy : A.y = B.y := by rw [h.ya, h.yb, hx]
   have hAB : A = B := Af.ext hx hy
   subst hAB
   have hy0 : A.y ≠ 0 := fun e => ho ⟨rfl, by rw [e]; grobner⟩
   have s1 := h.slope2
   rw [← h'.slope2] at s1
   refine K.can (u := 2 * A.y) (fun e => ?_) s1
   rcases K.z _ _ e with e | e
   ·exact K.two e
   ·exact hy0 e
  ·have d1 : A.y - B.y = l * (A.x - B.x) := by rw [h.ya, h.yb]; grobner
   have d2 : A.y - B.y = l' * (A.x - B.x) := by rw [h'.ya, h'.yb]; grobner
   rw [d1] at d2
   refine K.can (u := A.x - B.x) (fun e => hx (sub_z e)) ?_
   have e1 : (A.x - B.x) * l = l * (A.x - B.x) := by grobner
   have e2 : (A.x - B.x) * l' = l' * (A.x - B.x) := by grobner
   rw [e1, e2, d2]
 subst hl
 have hv : v = v' := by
  have e1 : v = A.y - l * A.x := by rw [h.ya]; grobner
  have e2 : v' = A.y - l * A.x := by rw [h'.ya]; grobner
  rw [e1, e2]
 subst hv
 have hx : C.x = C'.x := by
  have e1 : C.x = l * l - A.x - B.x := by rw [← h.e1]; grobner
  have e2 : C'.x = l * l - A.x - B.x := by rw [← h'.e1]; grobner
  rw [e1, e2]
 exact ⟨rfl, rfl, Af.ext hx (by rw [h.yc, h'.yc, hx])⟩
/-- A line through two points, or the tangent: the third point. -/
theorem col_of (K : Fld n) {A B : Af n} (hA : On a b A) (hB : On a b B) {l : Fin n} (hl : (A.x ≠ B.x ∧ l * (A.x - B.x) = A.y - B.y) ∨ (A = B ∧ A.y ≠ 0 ∧ l * (2 * A.y) = 3 * A.x * A.x + a)) :
 Col a b l (A.y - l * A.x) A B ⟨l * l - A.x - B.x, l * (l * l - A.x - B.x) + (A.y - l * A.x)⟩ := by
 unfold On at hA hB
 obtain ⟨x1, y1⟩ := A
 obtain ⟨x2, y2⟩ := B
 dsimp only at *
 rcases hl with ⟨hx, hl⟩ | ⟨hAB, hy, hl⟩
 ·have hy2 : y2 = l * x2 + (y1 - l * x1) := by
   have : y2 = y1 - (y1 - y2) := by grobner
   rw [this, ← hl]; grobner
  have hd : x1 - x2 ≠ 0 := fun e => hx (sub_z e)
  -- the two coefficients of the cubic's rest along the line
  have k2 : x1 * x2 + x1 * (l * l - x1 - x2) + x2 * (l * l - x1 - x2) = a - 2 * l * (y1 - l * x1) := by
   refine K.can hd ?_
   have hb : b = y1 * y1 - x1 * x1 * x1 - a * x1 := by rw [hA]; grobner
   rw [hb, hy2] at hB
   have key : (x1 - x2) * (x1 * x2 + x1 * (l * l - x1 - x2) + x2 * (l * l - x1 - x2)) - (x1 - x2) * (a - 2 * l * (y1 - l * x1)) = (x2 * x2 * x2 + a * x2 + (y1 * y1 - x1 * x1 * x1 - a * x1)) - (l * x2 + (y1 - l * x1)) * (l * x2 + (y1 - l * x1)) := by grobner
   rw [← hB] at key
   exact sub_z (by rw [key]; grobner)
  refine ⟨?_, hy2, rfl, ?_, k2, ?_⟩
  ·show y1 = l * x1 + (y1 - l * x1); grobner
  ·show x1 + x2 + (l * l - x1 - x2) = l * l; grobner
  ·show x1 * x2 * (l * l - x1 - x2) = (y1 - l * x1) * (y1 - l * x1) - b
   have hb : b = y1 * y1 - x1 * x1 * x1 - a * x1 := by rw [hA]; grobner
   have ha : a = x1 * x2 + x1 * (l * l - x1 - x2) + x2 * (l * l - x1 - x2) + 2 * l * (y1 - l * x1) := by rw [k2]; grobner
   rw [hb, ha]; grobner
 ·obtain ⟨rfl, rfl⟩ : x1 = x2 ∧ y1 = y2 := ⟨congrArg Af.x hAB, congrArg Af.y hAB⟩
  have k2 : x1 * x1 + x1 * (l * l - x1 - x1) + x1 * (l * l - x1 - x1) = a - 2 * l * (y1 - l * x1) := by
   have ha : a = l * (2 * y1) - 3 * x1 * x1 := by rw [hl]; grobner
   rw [ha]; grobner
  refine ⟨?_, ?_, rfl, ?_, k2, ?_⟩
  ·show y1 = l * x1 + (y1 - l * x1); grobner
  ·show y1 = l * x1 + (y1 - l * x1); grobner
  ·show x1 + x1 + (l * l - x1 - x1) = l * l; grobner
  ·show x1 * x1 * (l * l - x1 - x1) = (y1 - l * x1) * (y1 - l * x1) - b
   have hb : b = y1 * y1 - x1 * x1 * x1 - a * x1 := by rw [hA]; grobner
   have ha : a = l * (2 * y1) - 3 * x1 * x1 := by rw [hl]; grobner
   rw [hb, ha]; grobner
theorem Fld.slope (K : Fld n) {A B : Af n} (hA : On a b A) (hB : On a b B) (ho : ¬ Opp A B) : ∃ l : Fin n, (A.x ≠ B.x ∧ l * (A.x - B.x) = A.y - B.y) ∨ (A = B ∧ A.y ≠ 0 ∧ l * (2 * A.y) = 3 * A.x * A.x + a) := by
 by_cases hx : A.x = B.x
 ·rcases On.opp K hA hB hx with h | h
  ·subst h
   have hy : A.y ≠ 0 := fun e => ho ⟨rfl, by rw [e]; grobner⟩
   obtain ⟨i, hi⟩ := K.inv (2 * A.y) fun e => by
    rcases K.z _ _ e with e | e
    ·exact K.two e
    ·exact hy e
   refine ⟨(3 * A.x * A.x + a) * i, .inr ⟨rfl, hy, ?_⟩⟩
   have : (3 * A.x * A.x + a) * i * (2 * A.y) = (3 * A.x * A.x + a) * (2 * A.y * i) := by grobner
   rw [this, hi]; grobner
  ·exact absurd h ho
 ·obtain ⟨i, hi⟩ := K.inv (A.x - B.x) fun e => hx (sub_z e)
  refine ⟨(A.y - B.y) * i, .inl ⟨hx, ?_⟩⟩
  have : (A.y - B.y) * i * (A.x - B.x) = (A.y - B.y) * ((A.x - B.x) * i) := by grobner
  rw [this, hi]; grobner
theorem Opp.eq {A B : Af n} (h : Opp A B) : B = A.neg := Af.ext h.1.symm (by show B.y = -A.y; rw [h.2]; grobner)
theorem Opp.of (A : Af n) : Opp A A.neg := ⟨rfl, by show A.y = - -A.y; grobner⟩
theorem Opp.symm {A B : Af n} (h : Opp A B) : Opp B A := ⟨h.1.symm, by rw [h.2]; grobner⟩
theorem lf0 (u l v : Fin n) : u = u - 2 * l * v + 2 * l * v := by grobner
theorem lf1 (l1 l2 xB xR : Fin n) : l1 * l2 + xR + -(l1 + l2) * l1 = -((l1 * l1 - xB - xR) + xB) := by grobner
theorem lf2 (l1 v1 l2 xB xR : Fin n) : (l1 * l1 - xB - xR) * xB + (l1 * l1 - xB - xR) * xR + xB * xR + 2 * l1 * v1 + l1 * (-(l1 * xR + v1) - l2 * xR) + l2 * v1 + xR * (l1 * l2 + xR) + -(l1 + l2) * v1 = (l1 * l1 - xB - xR) * xB := by grobner
theorem lf4 (xA xB xR : Fin n) : xA = xA + xB + xR - xB - xR := by grobner
theorem lf6 (l2 v2 xR : Fin n) : v2 = l2 * xR + v2 - l2 * xR := by grobner
theorem lf9 (l1 l2 x : Fin n) : l1 * l2 + x + -(l1 + l2) * l2 = l2 * l1 + x + -(l2 + l1) * l2 := by grobner
theorem lf10 (l1 v1 l2 v2 x u : Fin n) : u + l1 * v2 + l2 * v1 + x * (l1 * l2 + x) + -(l1 + l2) * v2 = u + l2 * v1 + l1 * v2 + x * (l2 * l1 + x) + -(l2 + l1) * v2 := by grobner
/-- The coefficients, along the first line. -/
theorem lineF1 {l1 v1 l2 v2 xA xB xR yR : Fin n} (y1 : yR = l1 * xR + v1) (y2 : -yR = l2 * xR + v2) (e1 : xA + xB + xR = l1 * l1) (e2 : xA * xB + xA * xR + xB * xR = a - 2 * l1 * v1) :
 l1 * l2 + xR + -(l1 + l2) * l1 = -(xA + xB) ∧ a + l1 * v2 + l2 * v1 + xR * (l1 * l2 + xR) + -(l1 + l2) * v1 = xA * xB := by
 have hv : v2 = -(l1 * xR + v1) - l2 * xR := by rw [← y1, y2]; exact lf6 l2 v2 xR
 have ha : a = xA * xB + xA * xR + xB * xR + 2 * l1 * v1 := by rw [e2]; exact lf0 a l1 v1
 have hA : xA = l1 * l1 - xB - xR := by rw [← e1]; exact lf4 xA xB xR
 subst hv
 subst ha
 subst hA
 exact ⟨lf1 l1 l2 xB xR, lf2 l1 v1 l2 xB xR⟩
/-- What a line through A, B, R and one through -R, C, T make: x^2 + al x + be y + ga. -/
theorem lineF {l1 v1 l2 v2 : Fin n} {A B C R T : Af n} (h : Col a b l1 v1 A B R) (k : Col a b l2 v2 R.neg C T) :
 l1 * l2 + R.x + -(l1 + l2) * l1 = -(A.x + B.x) ∧ a + l1 * v2 + l2 * v1 + R.x * (l1 * l2 + R.x) + -(l1 + l2) * v1 = A.x * B.x ∧
 l1 * l2 + R.x + -(l1 + l2) * l2 = -(C.x + T.x) ∧ a + l1 * v2 + l2 * v1 + R.x * (l1 * l2 + R.x) + -(l1 + l2) * v2 = C.x * T.x := by
 have y2 : -R.y = l2 * R.x + v2 := k.ya
 have k2 := k.turn
 obtain ⟨p1, p2⟩ := lineF1 h.yc y2 h.e1 h.e2
 have y2' : - -R.y = l1 * R.x + v1 := by rw [← h.yc]; exact congrArg Af.y (Af.neg_neg R)
 obtain ⟨q1, q2⟩ := lineF1 (a := a) (l2 := l1) (v2 := v1) (xA := C.x) (xB := T.x) (xR := R.x) y2 y2' k2.e1 k2.e2
 refine ⟨p1, p2, ?_, ?_⟩
 ·rw [← q1]; exact lf9 l1 l2 R.x
 ·rw [← q2]; exact lf10 l1 v1 l2 v2 R.x a
theorem Col.x3 {l v : Fin n} {A B C : Af n} (h : Col a b l v A B C) : C.x = l * l - A.x - B.x := by rw [← h.e1]; grobner
end Go.Ec
/- Modulo a prime: a field. -/
set_option autoImplicit false
namespace Go.Nt
open Go.Ec
theorem pow_pred {p x : Nat} (h2 : 2 < p) : x * x ^ (p - 2) = x ^ (p - 1) := by
 rw [← Nat.pow_succ', show Nat.succ (p - 2) = p - 1 by omega]
theorem fld {p : Nat} [NeZero p] (h : Pr p) (h2 : 2 < p) : Fld p := by
 refine ⟨fun u v huv => ?_, fun u hu => ⟨Fin.ofNat p (u.val ^ (p - 2)), ?_⟩, fun e => ?_⟩
 ·have e := congrArg Fin.val huv
  rw [Fin.val_mul] at e
  have e' : u.val * v.val % p = 0 := e
  rcases h.euclid (Nat.dvd_of_mod_eq_zero e') with d | d
  ·left; apply Fin.ext
   show u.val = 0
   rcases Nat.eq_zero_or_pos u.val with z | z
   ·exact z
   ·have := Nat.le_of_dvd z d; have := u.isLt; omega
  ·right; apply Fin.ext
   show v.val = 0
   rcases Nat.eq_zero_or_pos v.val with z | z
   ·exact z
   ·have := Nat.le_of_dvd z d; have := v.isLt; omega
 ·apply Fin.ext
  rw [Fin.val_mul]
  show u.val * (u.val ^ (p - 2) % p) % p = 1 % p
  have hd : ¬ p ∣ u.val := fun d => by
   rcases Nat.eq_zero_or_pos u.val with z | z
   ·exact hu (Fin.ext z)
   ·have := Nat.le_of_dvd z d; have := u.isLt; omega
  rw [Nat.mul_mod, Nat.mod_mod, ← Nat.mul_mod, pow_pred h2, fermat h hd, Nat.mod_eq_of_lt (by omega)]
 ·have := congrArg Fin.val e
  have e' : 2 % p = 0 := this
  rw [Nat.mod_eq_of_lt h2] at e'
  cases e'
end Go.Nt
/- The inverse by halves and differences, plainly. -/
set_option autoImplicit false
namespace Go.Nt
open Go.Ec
variable {M : Nat} [NeZero M]
def toF (M : Nat) [NeZero M] (x : Nat) : Fin M := Fin.ofNat M x
theorem toF_add (x y : Nat) : toF M (x + y) = toF M x + toF M y := by
 apply Fin.ext; show (x + y) % M = (x % M + y % M) % M; exact Nat.add_mod ..
theorem toF_mul (x y : Nat) : toF M (x * y) = toF M x * toF M y := by
 apply Fin.ext; show (x * y) % M = (x % M * (y % M)) % M; exact Nat.mul_mod ..
theorem toF_self : toF M M = 0 := by
 apply Fin.ext; show M % M = 0 % M; rw [Nat.mod_self, Nat.zero_mod]
theorem toF_mod (x : Nat) : toF M (x % M) = toF M x := by
 apply Fin.ext; show x % M % M = x % M; exact Nat.mod_mod ..
theorem toF_two : toF M 2 = 2 := rfl
theorem toF_inj {x y : Nat} (hx : x < M) (hy : y < M) (h : toF M x = toF M y) : x = y := by
 have e : x % M = y % M := congrArg Fin.val h
 rwa [Nat.mod_eq_of_lt hx, Nat.mod_eq_of_lt hy] at e
theorem toF_sub {x y : Nat} (hy : y ≤ M) : toF M ((x + M - y) % M) = toF M x - toF M y := by
 have h : toF M (x + M - y) + toF M y = toF M x := by
  rw [← toF_add, show x + M - y + y = x + M by omega, toF_add, toF_self]; grobner
 rw [toF_mod]
 have e : toF M (x + M - y) = (toF M (x + M - y) + toF M y) - toF M y := by clear h; grobner
 rw [e, h]
def hlf (M x : Nat) : Nat := if x % 2 = 0 then x / 2 else (x + M) / 2
omit [NeZero M] in
theorem hlf_lt {x : Nat} (hx : x < M) : hlf M x < M := by unfold hlf; split <;> omega
theorem hlf_two {x : Nat} (hM : M % 2 = 1) : 2 * toF M (hlf M x) = toF M x := by
 rw [← toF_two (M := M), ← toF_mul]
 unfold hlf
 split
 ·rw [show 2 * (x / 2) = x by omega]
 ·rw [show 2 * ((x + M) / 2) = x + M by omega, toF_add, toF_self]; grobner
/-- x times a is u, y times a is v; u and v have no common part. -/
structure Iv (M a : Nat) [NeZero M] (u v x y : Nat) : Prop where
 u0 : 0 < u
 v0 : 0 < v
 uM : u ≤ M
 vM : v ≤ M
 xM : x < M
 yM : y < M
 hx : toF M x * toF M a = toF M u
 hy : toF M y * toF M a = toF M v
 g : Nat.gcd u v = 1
theorem half_eq (K : Fld M) (hM : M % 2 = 1) {x u a : Nat} (hu : u % 2 = 0) (h : toF M x * toF M a = toF M u) : toF M (hlf M x) * toF M a = toF M (u / 2) := by
 refine K.can K.two ?_
 have e1 : 2 * (toF M (hlf M x) * toF M a) = (2 * toF M (hlf M x)) * toF M a := by clear h; grobner
 rw [e1, hlf_two hM, h, ← toF_two (M := M), ← toF_mul, show 2 * (u / 2) = u by omega]
theorem gcd_half {u v : Nat} (h : Nat.gcd u v = 1) (hu : u % 2 = 0) : Nat.gcd (u / 2) v = 1 :=
 Nat.Coprime.coprime_dvd_left ⟨2, by omega⟩ h
theorem Iv.start (hM : Pr M) (h2 : 2 < M) {a : Nat} (h0 : 0 < a) (ha : a < M) : Iv M a a M 1 0 := by
 refine ⟨h0, by omega, by omega, Nat.le_refl _, by omega, by omega, ?_, ?_, ?_⟩
 ·rw [← toF_mul, Nat.one_mul]
 ·rw [← toF_mul, Nat.zero_mul, toF_self]; rfl
 ·rw [Nat.gcd_comm]; exact hM.cop fun d => by have := Nat.le_of_dvd h0 d; omega
theorem Iv.hu (K : Fld M) (hM : M % 2 = 1) {a u v x y : Nat} (h : Iv M a u v x y) (e : u % 2 = 0) : Iv M a (u / 2) v (hlf M x) y :=
 ⟨by have := h.u0; omega, h.v0, by have := h.uM; omega, h.vM, hlf_lt h.xM, h.yM, half_eq K hM e h.hx, h.hy, gcd_half h.g e⟩
theorem Iv.hv (K : Fld M) (hM : M % 2 = 1) {a u v x y : Nat} (h : Iv M a u v x y) (e : v % 2 = 0) : Iv M a u (v / 2) x (hlf M y) :=
 ⟨h.u0, by have := h.v0; omega, h.uM, by have := h.vM; omega, h.xM, hlf_lt h.yM, h.hx, half_eq K hM e h.hy, by rw [Nat.gcd_comm]; exact gcd_half (by rw [Nat.gcd_comm]; exact h.g) e⟩
theorem Iv.su {a u v x y : Nat} (h : Iv M a u v x y) (hu : u ≠ 1) (e : v ≤ u) : Iv M a (u - v) v ((x + M - y) % M) y := by
 have hlt : v < u := by
  rcases Nat.lt_or_ge v u with q | q
  ·exact q
  ·have : u = v := by omega
   subst this
   have := h.g; rw [Nat.gcd_self] at this; exact absurd this hu
 have := h.uM; have := h.yM; have := h.v0
 refine ⟨by omega, h.v0, by omega, h.vM, Nat.mod_lt _ (by omega), h.yM, ?_, h.hy, ?_⟩
 ·have e2 : toF M (u - v) + toF M v = toF M u := by rw [← toF_add, show u - v + v = u by omega]
  have e3 : toF M (u - v) = toF M u - toF M v := by rw [← e2]; clear e2; grobner
  rw [toF_sub (by omega), e3, ← h.hx, ← h.hy]; clear e3 e2; grobner
 ·rw [Nat.gcd_sub_self_left e]; exact h.g
theorem Iv.sv {a u v x y : Nat} (h : Iv M a u v x y) (e : u < v) : Iv M a u (v - u) x ((y + M - x) % M) := by
 have := h.vM; have := h.xM; have := h.u0
 refine ⟨h.u0, by omega, h.uM, by omega, h.xM, Nat.mod_lt _ (by omega), h.hx, ?_, ?_⟩
 ·have e2 : toF M (v - u) + toF M u = toF M v := by rw [← toF_add, show v - u + u = v by omega]
  have e3 : toF M (v - u) = toF M v - toF M u := by rw [← e2]; clear e2; grobner
  rw [toF_sub (by omega), e3, ← h.hx, ← h.hy]; clear e3 e2; grobner
 ·rw [Nat.gcd_comm, Nat.gcd_sub_self_left (by omega), Nat.gcd_comm]; exact h.g
/-- The inverse. -/
def invN (M a : Nat) : Nat := a ^ (M - 2) % M
theorem inv_uniq (hM : Pr M) (h2 : 2 < M) {a z : Nat} (h0 : ¬ M ∣ a) (hz : z < M) (h : toF M z * toF M a = 1) : z = invN M a := by
 have K := fld hM h2
 have e : toF M (invN M a) * toF M a = 1 := by
  rw [← toF_mul]
  apply Fin.ext
  show a ^ (M - 2) % M * a % M = 1 % M
  rw [Nat.mul_mod, Nat.mod_mod, ← Nat.mul_mod, Nat.mul_comm, pow_pred h2, fermat hM h0, Nat.mod_eq_of_lt (by omega)]
 have ha : toF M a ≠ 0 := fun q => by rw [q] at h; exact K.two (by
  have h3 : (1 : Fin M) = 0 := by rw [← h]; grobner
  have h4 : (2 : Fin M) = 1 + 1 := by clear h h3 e q; grobner
  rw [h4, h3]; clear h h3 h4 e q; grobner)
 refine toF_inj hz (Nat.mod_lt _ (by omega)) (K.can ha ?_)
 have c1 : toF M a * toF M z = toF M z * toF M a := by clear h e; grobner
 have c2 : toF M a * toF M (invN M a) = toF M (invN M a) * toF M a := by clear h e c1; grobner
 rw [c1, c2, h, e]
theorem Iv.done (hM : Pr M) (h2 : 2 < M) {a u v x y : Nat} (ha : ¬ M ∣ a) (h : Iv M a u v x y) : (u = 1 → x = invN M a) ∧ (v = 1 → y = invN M a) :=
 ⟨fun e => inv_uniq hM h2 ha h.xM (by rw [h.hx, e]; rfl), fun e => inv_uniq hM h2 ha h.yM (by rw [h.hy, e]; rfl)⟩
end Go.Nt
/- Into Montgomery's way, out of it; the inverse. -/
set_option autoImplicit false
namespace Go.Proofs
open Go.SL
/-- A product by 2^256. -/
def mm (m : W4) (ri : Nat) (a b : W4) : W4 := W4.of (a.n * b.n * ri % m.n)
theorem mm_lt {m a b : W4} {N ri : Nat} (hm : MOk m N ri) : (mm m ri a b).n = a.n * b.n * ri % m.n := W4.n_of (Nat.lt_trans (Nat.mod_lt _ hm.pos) (W4.lt hm.ok))
theorem mm_ok (m : W4) (ri : Nat) (a b : W4) : (mm m ri a b).ok := W4.of_ok _
theorem mulW_ok (m : W4) (N : Nat) (a b : W4) : (mulW m N a b).ok := by
 unfold mulW
 split
 ·exact lo4_ok (mulT_ok _ _ _ _ _)
 ·exact subW_ok _ _
theorem mulW_mm {m a b : W4} {N ri : Nat} (hm : MOk m N ri) (ha : a.ok) (hb : b.ok) (hl : a.n < m.n ∨ b.n < m.n) : mulW m N a b = mm m ri a b := of_eq (mulW_ok ..) (mulW_n hm ha hb hl)
attribute [local irreducible] J JL QOp JOp seqQ blockQ loopQ retQ slc cel hex star pur stars Does RV Ent pAt scopeQ
section
variable (E : World) (m rr : W4) (N ri : Nat) (hm : MOk m N ri)
include hm
theorem mmulE (a b : W4) (ha : a.ok) (hb : b.ok) (hl : a.n < m.n ∨ b.n < m.n) : Does Tryz.prog E 144 [modV m N rr, a.v, b.v] [] fun r L => r = (mm m ri a b).v ∧ L = [] := by
 rw [← mulW_mm hm ha hb hl]
 exact mmul_ok E m rr a b N hm.ok hm.hN ha hb
theorem minE (a : W4) (ha : a.ok) (hr : rr.ok) (hl : rr.n < m.n) : Does Tryz.prog E 128 [modV m N rr, a.v] [] fun r L => r = (mm m ri a rr).v ∧ L = [] := by
 refine Does.of Tryz.func128 rfl Tryz.ntmps128 rfl rfl fun F => ?_
 refine Xb ?_
 refine L_o rfl rfl rfl (O_box rfl fun b2 => ?_)
 refine L_o rfl rfl rfl (O_box rfl fun b3 => ?_)
 refine L_o rfl rfl rfl (O_alloc fun b4 => ?_)
 refine Ln ?_
 refine XZ ?_
 refine XI ?_
 refine XD ?_
 refine X0 ?_
 refine L_o rfl rfl rfl (O_callP (mmulE E m rr N ri hm a rr ha hr (.inr hl)) rfl ?_)
 refine XG ?_
 exact Xda
abbrev one4 : W4 := ⟨1, 0, 0, 0⟩
theorem moutE (a : W4) (ha : a.ok) (h1 : 1 < m.n) : Does Tryz.prog E 175 [modV m N rr, a.v] [] fun r L => r = (mm m ri a one4).v ∧ L = [] := by
 refine Does.of Tryz.func175 rfl Tryz.ntmps175 rfl rfl fun F => ?_
 refine Xb ?_
 refine L_o rfl rfl rfl (O_box rfl fun b2 => ?_)
 refine L_o rfl rfl rfl (O_box rfl fun b3 => ?_)
 refine L_o rfl rfl rfl (O_alloc fun b4 => ?_)
 refine Ln ?_
 refine XZ ?_
 refine XI ?_
 refine Xk ?_
 refine L_o rfl rfl rfl (O_callP (mmulE E m rr N ri hm a one4 ha (by constructor <;> decide) (.inr (show 1 < m.n from h1))) rfl ?_)
 refine XG ?_
 exact Xda
end
end Go.Proofs
