/- Part 20 of the texts below the row: EcQ, GrpP, JacP. -/
import Derived.Test.YtdggicfcpcjjlaaGreatDoorM1
import Derived.Test.YtdggicfcpcjjlaaGreatDoorM18
/- The law of a cubic's points: the sum is associative. -/
set_option autoImplicit false
namespace Go.Ec
variable {n : Nat} [NeZero n] {a b : Fin n}
theorem aq1 (xA u w : Fin n) (h : xA * xA + u * xA + w = 0) : w = -(xA * xA) - u * xA := by
 have : w = (xA * xA + u * xA + w) - xA * xA - u * xA := by grobner
 rw [this, h]; grobner
theorem aq2 (K : Fld n) {xA xB u w : Fin n} (hx : xA ≠ xB) (h1 : xA * xA + u * xA + w = 0) (h2 : xB * xB + u * xB + w = 0) : u = -(xA + xB) ∧ w = xA * xB := by
 have hw := aq1 _ _ _ h1
 subst hw
 have h3 : (xA - xB) * (xA + xB + u) = 0 := by
  have e : (xA - xB) * (xA + xB + u) = -(xB * xB + u * xB + (-(xA * xA) - u * xA)) := by clear h1 h2 hx; grobner
  rw [e, h2]; clear h1 h2 hx; grobner
 have hu : u = -(xA + xB) := by
  rcases K.z _ _ h3 with e | e
  ·exact absurd (sub_z e) hx
  ·have : u = (xA + xB + u) - (xA + xB) := by clear h1 h2 h3 e hx; grobner
   rw [this, e]; clear h1 h2 h3 e hx; grobner
 subst hu
 exact ⟨rfl, by clear h1 h2 h3 hx; grobner⟩
/-- On a line whose x's have the sum s and the product m: x^2 + (al + be l) x + (ga + be v) = 0 at each. -/
theorem at_line {al be ga l v x y s m : Fin n} (h1 : al + be * l = -(x + s)) (h2 : ga + be * v = x * s) (hy : y = l * x + v) (_ : m = 0) : x * x + al * x + be * y + ga = 0 := by
 have e : x * x + al * x + be * y + ga = x * x + (al + be * l) * x + (ga + be * v) := by rw [hy]; clear h1 h2; grobner
 rw [e, h1, h2]; clear h1 h2 e; grobner
theorem at_line' {al be ga l v x y s : Fin n} (h : x * x + al * x + be * y + ga = 0) (hy : y = l * x + v) (_ : s = 0) : x * x + (al + be * l) * x + (ga + be * v) = 0 := by
 rw [← h, hy]; clear h; grobner
theorem dq1 (x a : Fin n) : a = (3 * x * x + a) - 3 * x * x := by grobner
theorem dq2 (x a b : Fin n) : b = (x * x * x + a * x + b) - x * x * x - a * x := by grobner
theorem disc0 {x a b : Fin n} (h1 : 3 * x * x + a = 0) (h2 : x * x * x + a * x + b = 0) : 4 * a * a * a + 27 * b * b = 0 := by
 have ha := dq1 x a
 have hb := dq2 x a b
 rw [h2] at hb
 rw [h1] at ha
 clear h1 h2
 subst hb
 subst ha
 grobner
theorem Col.opp_not (K : Fld n) (hD : 4 * a * a * a + 27 * b * b ≠ 0) {l v : Fin n} {A B R : Af n} (h : Col a b l v A B R) : ¬ Opp R A := by
 intro ho
 have hx := ho.1
 have hAR : A = R := Af.ext hx.symm (by rw [h.ya, h.yc, hx])
 subst hAR
 have hy : A.y = 0 := K.self ho.2
 have s := h.turn.turn.slope2
 have hon := h.on
 unfold On at hon
 rw [hy] at s hon
 exact hD (disc0 (x := A.x) (by rw [← s]; grobner) (by rw [← hon]; grobner))
/-- C is the sum of A and B; none: the point at infinity. -/
def Sum (a b : Fin n) (A B C : Option (Af n)) : Prop := match A, B with
 | none, _ => C = B
 | some _, none => C = A
 | some P, some Q => (Opp P Q ∧ C = none) ∨ (¬ Opp P Q ∧ ∃ l v R, Col a b l v P Q R ∧ C = some R.neg)
theorem nn (u : Fin n) : - -u = u := by grobner
def neg (A : Option (Af n)) : Option (Af n) := A.map Af.neg
def OnO (a b : Fin n) (A : Option (Af n)) : Prop := ∀ P, A = some P → On a b P
theorem neg_neg (A : Option (Af n)) : neg (neg A) = A := by
 cases A with
 | none => rfl
 | some P => exact congrArg some (Af.neg_neg P)
theorem Sum.comm {A B C : Option (Af n)} (h : Sum a b A B C) : Sum a b B A C := by
 cases A with
 | none => cases B <;> exact h
 | some P =>
  cases B with
  | none => exact h
  | some Q =>
   rcases h with ⟨h1, h2⟩ | ⟨h1, l, v, R, h2, h3⟩
   ·exact .inl ⟨h1.symm, h2⟩
   ·exact .inr ⟨fun e => h1 e.symm, l, v, R, h2.swap, h3⟩
theorem Sum.uniq (K : Fld n) {A B C C' : Option (Af n)} (h : Sum a b A B C) (h' : Sum a b A B C') : C = C' := by
 cases A with
 | none => exact Eq.trans h (Eq.symm h')
 | some P =>
  cases B with
  | none => exact Eq.trans h (Eq.symm h')
  | some Q =>
   rcases h with ⟨h1, h2⟩ | ⟨h1, l, v, R, h2, h3⟩
   ·rcases h' with ⟨_, k2⟩ | ⟨k1, _⟩
    ·rw [h2, k2]
    ·exact absurd h1 k1
   ·rcases h' with ⟨k1, _⟩ | ⟨_, l', v', R', k2, k3⟩
    ·exact absurd k1 h1
    ·rw [h3, k3, (h2.uniq K k2 h1).2.2]
theorem Sum.ex (K : Fld n) {A B : Option (Af n)} (hA : OnO a b A) (hB : OnO a b B) : ∃ C, Sum a b A B C := by
 cases A with
 | none => exact ⟨B, rfl⟩
 | some P =>
  cases B with
  | none => exact ⟨some P, rfl⟩
  | some Q =>
   by_cases ho : Opp P Q
   ·exact ⟨none, .inl ⟨ho, rfl⟩⟩
   ·obtain ⟨l, hl⟩ := K.slope (a := a) (hA P rfl) (hB Q rfl) ho
    exact ⟨_, .inr ⟨ho, l, _, _, col_of K (hA P rfl) (hB Q rfl) hl, rfl⟩⟩
theorem Sum.on {A B C : Option (Af n)} (hA : OnO a b A) (hB : OnO a b B) (h : Sum a b A B C) : OnO a b C := by
 cases A with
 | none => rw [show C = B from h]; exact hB
 | some P =>
  cases B with
  | none => rw [show C = some P from h]; exact hA
  | some Q =>
   rcases h with ⟨_, h2⟩ | ⟨_, l, v, R, h2, h3⟩
   ·rw [h2]; intro _ e; cases e
   ·rw [h3]; intro S e
    obtain rfl := Option.some.inj e
    exact h2.turn.turn.on.neg
theorem Sum.cancel (K : Fld n) (hD : 4 * a * a * a + 27 * b * b ≠ 0) {A B C : Option (Af n)} (h : Sum a b A B C) : Sum a b C (neg A) B := by
 cases A with
 | none => rw [show C = B from h]; cases B <;> rfl
 | some P =>
  cases B with
  | none => rw [show C = some P from h]; exact .inl ⟨Opp.of P, rfl⟩
  | some Q =>
   rcases h with ⟨h1, h2⟩ | ⟨h1, l, v, R, h2, h3⟩
   ·rw [h2]; exact congrArg some h1.eq
   ·rw [h3]
    refine .inr ⟨?_, -l, -v, Q.neg, h2.turn.turn.neg, ?_⟩
    ·intro e
     have h5 : -R.y = - -P.y := e.2
     have e2 : Opp R P := ⟨e.1, by rw [← nn R.y, h5, nn]⟩
     exact h2.opp_not K hD e2
    ·rw [Af.neg_neg]
theorem as1 (be1 be2 l1 v1 al1 ga1 al2 ga2 x y : Fin n) (h0 : al1 + be1 * l1 = al2 + be2 * l1) (h2 : ga1 + be1 * v1 = ga2 + be2 * v1) : (be1 - be2) * (y - (l1 * x + v1)) = (x * x + al1 * x + be1 * y + ga1) - (x * x + al2 * x + be2 * y + ga2) := by
 have e1 : al1 = (al1 + be1 * l1) - be1 * l1 := by clear h0 h2; grobner
 have e2 : ga1 = (ga1 + be1 * v1) - be1 * v1 := by clear h0 h2 e1; grobner
 rw [e1, e2, h0, h2]; clear e1 e2 h0 h2; grobner
theorem as2 (al be l1 l2 s x : Fin n) (h1 : al + be * l1 = -s) (h2 : al + be * l2 = -x) (hb : be = -(l1 + l2)) : x = be * be - 2 * al - s := by
 have e1 : s = -(al + be * l1) := by rw [h1]; exact (nn s).symm
 have e2 : x = -(al + be * l2) := by rw [h2]; exact (nn x).symm
 subst e1
 rw [e2]; clear h1 h2 e2
 subst hb
 grobner
theorem as3 (l3 l4 xA xE yA yE v3 v4 : Fin n) (h1 : yA = l3 * xA + v3) (h2 : yE = l3 * xE + v3) (h3 : yA = l4 * xA + v4) (h4 : -yE = l4 * xE + v4) : (l3 + l4) * (xA - xE) = 2 * yA ∧ (l3 * (xA - xE)) * (l4 * (xA - xE)) = yA * yA - yE * yE := by
 have e1 : l3 * (xA - xE) = yA - yE := by rw [h1, h2]; clear h1 h2 h3 h4; grobner
 have e2 : l4 * (xA - xE) = yA - -yE := by rw [h4, h3]; clear e1 h1 h2 h3 h4; grobner
 constructor
 ·have : (l3 + l4) * (xA - xE) = l3 * (xA - xE) + l4 * (xA - xE) := by clear e1 e2 h1 h2 h3 h4; grobner
  rw [this, e1, e2]; clear this e1 e2 h1 h2 h3 h4; grobner
 ·rw [e1, e2]; clear e1 e2 h1 h2 h3 h4; grobner
theorem as4 (K : Fld n) {l1 l3 l4 xA xE yA yE v3 v4 : Fin n} (h1 : yA = l3 * xA + v3) (h2 : yE = l3 * xE + v3) (h3 : yA = l4 * xA + v4) (h4 : -yE = l4 * xE + v4) (hA : yA * yA = xA * xA * xA + a * xA + b) (hE : yE * yE = xE * xE * xE + a * xE + b) (hx : xA ≠ xE) (ht : 2 * yA * l1 = 3 * xA * xA + a) :
 l3 * l4 + xE + -(l3 + l4) * l1 = -(xA + xA) := by
 obtain ⟨m1, m2⟩ := as3 l3 l4 xA xE yA yE v3 v4 h1 h2 h3 h4
 have hd : xA - xE ≠ 0 := fun e => hx (sub_z e)
 have m3 : l3 * l4 * (xA - xE) = xA * xA + xA * xE + xE * xE + a := by
  refine K.can hd ?_
  have e1 : (xA - xE) * (l3 * l4 * (xA - xE)) = (l3 * (xA - xE)) * (l4 * (xA - xE)) := by clear h1 h2 h3 h4 hA hE ht m1 m2 hd hx; grobner
  rw [e1, m2, hA, hE]; clear h1 h2 h3 h4 hA hE ht m1 m2 hd hx e1; grobner
 refine K.can hd ?_
 have e2 : (xA - xE) * (l3 * l4 + xE + -(l3 + l4) * l1) = l3 * l4 * (xA - xE) + (xA - xE) * xE - (l3 + l4) * (xA - xE) * l1 := by clear h1 h2 h3 h4 hA hE ht m1 m2 hd hx m3; grobner
 rw [e2, m3, m1, ht]; clear h1 h2 h3 h4 hA hE ht m1 m2 hd hx m3 e2; grobner
theorem as5 (u v : Fin n) : -(u + v) = -(v + u) := by grobner
theorem as6 (u v : Fin n) : u * v = v * u := by grobner
theorem as7 (x al y1 y2 be ga : Fin n) (h1 : x * x + al * x + be * y1 + ga = 0) (h2 : x * x + al * x + be * y2 + ga = 0) : be * (y1 - y2) = 0 := by
 have : be * (y1 - y2) = (x * x + al * x + be * y1 + ga) - (x * x + al * x + be * y2 + ga) := by clear h1 h2; grobner
 rw [this, h1, h2]; clear this h1 h2; grobner
theorem as8 (xA xB xC xT : Fin n) (h1 : xA + xB = xC + xT) (h2 : xA * xB = xC * xT) : (xC - xA) * (xC - xB) = 0 := by
 have : (xC - xA) * (xC - xB) = xC * xC - xC * (xA + xB) + xA * xB := by clear h1 h2; grobner
 rw [this, h1, h2]; clear this h1 h2; grobner
theorem as9 (l1 l2 v1 v2 x y : Fin n) (h : (0 : Fin n) = -(l1 + l2)) (h1 : y = l1 * x + v1) (h2 : -y = l2 * x + v2) (z : Fin n) : l2 * z + v2 = -(l1 * z + v1) := by
 have e1 : l2 = -l1 := by
  have : l2 = -(-(l1 + l2)) - l1 := by clear h h1 h2; grobner
  rw [this, ← h]; clear this h h1 h2; grobner
 subst e1
 have e2 : v2 = -v1 := by
  have : v2 = (-l1 * x + v2) - -l1 * x := by clear h h1 h2; grobner
  rw [this, ← h2, h1]; clear this h h1 h2; grobner
 subst e2
 clear h h1 h2
 grobner
theorem as10 (u v : Fin n) : u + 0 * v = u := by grobner
theorem as11 {u v : Fin n} (h : -u = -v) : u = v := by rw [← nn u, h, nn]
theorem as12 (x : Fin n) : -(x * x) - -(x + x) * x = x * x := by grobner
theorem as13 : (0 : Fin n) - 0 = 0 := by grobner
theorem as14 {u v w : Fin n} (h : u + w = v + w) : u = v := by
 have : u = (u + w) - w := by clear h; grobner
 rw [this, h]; clear this h; grobner
theorem as15 {u v w : Fin n} (h : u + v = w) : v = w - u := by rw [← h]; clear h; grobner
theorem as16 (s xA xB xC : Fin n) : s - (xA + xB) - xC = s - (xB + xC) - xA := by grobner
/-- The sum is associative where no two are opposite and the third is neither of the others. -/
theorem assoc0 (K : Fld n) {A B C R1 R2 R3 R4 : Af n} {l1 v1 l2 v2 l3 v3 l4 v4 : Fin n} (hA : On a b A) (hC : On a b C)
 (h1 : Col a b l1 v1 A B R1) (h2 : Col a b l2 v2 R1.neg C R2) (h3 : Col a b l3 v3 B C R3) (h4 : Col a b l4 v4 A R3.neg R4)
 (oAB : ¬ Opp A B) (oBC : ¬ Opp B C) (oAC : ¬ Opp A C) (oDC : R1 ≠ C) (oAE : A ≠ R3) (oAE' : A = B → A ≠ R3.neg) (nAC : A ≠ C) (nBC : B ≠ C) : R2 = R4 := by
 obtain ⟨p1, p2, p3, p4⟩ := lineF h1 h2
 obtain ⟨q1, q2, q3, q4⟩ := lineF h3 h4.swap
 have hR3 : On a b R3 := h3.turn.turn.on
 have hB : On a b B := h3.on
 have y4 : -R3.y = l4 * R3.x + v4 := h4.yb
 have y1 : -R1.y = l2 * R1.x + v2 := h2.ya
 have f2A := at_line q3 q4 h4.ya rfl
 have f2B := at_line q1 q2 h3.ya rfl
 have f1C := at_line p3 p4 h2.yb rfl
 have f2C := at_line (q1.trans (as5 _ _)) (q2.trans (as6 _ _)) h3.yb rfl
 have f1S := at_line (p3.trans (as5 _ _)) (p4.trans (as6 _ _)) h2.yc rfl
 have f2S := at_line (q3.trans (as5 _ _)) (q4.trans (as6 _ _)) h4.yc rfl
 have hT : l3 * l4 + R3.x + -(l3 + l4) * l1 = -(A.x + B.x) ∧ a + l3 * v4 + l4 * v3 + R3.x * (l3 * l4 + R3.x) + -(l3 + l4) * v1 = A.x * B.x := by
  have g2A := at_line' f2A h1.ya rfl
  have g2B := at_line' f2B h1.yb rfl
  by_cases hx : A.x = B.x
  ·rcases On.opp K hA hB hx with e | e
   ·subst e
    have hxE : A.x ≠ R3.x := fun e => by
     rcases On.opp K hA hR3 e with e | e
     ·exact oAE e
     ·exact oAE' rfl (by rw [e.eq, Af.neg_neg])
    have hu := as4 K h3.ya h3.yc h4.ya y4 hA hR3 hxE h1.slope2
    refine ⟨hu, ?_⟩
    have hw := aq1 _ _ _ g2A
    rw [hw, hu]; exact as12 A.x
   ·exact absurd e oAB
  ·exact aq2 K hx g2A g2B
 generalize hal1 : l1 * l2 + R1.x = al1 at *
 generalize hbe1 : -(l1 + l2) = be1 at *
 generalize hga1 : a + l1 * v2 + l2 * v1 + R1.x * al1 = ga1 at *
 generalize hal2 : l3 * l4 + R3.x = al2 at *
 generalize hbe2 : -(l3 + l4) = be2 at *
 generalize hga2 : a + l3 * v4 + l4 * v3 + R3.x * al2 = ga2 at *
 have d0 := p1.trans hT.1.symm
 have d2 := p2.trans hT.2.symm
 have hbe : be1 = be2 := by
  have h5 := as1 be1 be2 l1 v1 al1 ga1 al2 ga2 C.x C.y d0 d2
  rw [f1C, f2C] at h5
  rcases K.z _ _ (h5.trans (by exact as13)) with e | e
  ·exact sub_z e
  ·rcases h1.which K.z hC (sub_z e) with e | e | e
   ·exact absurd e.symm nAC
   ·exact absurd e.symm nBC
   ·exact absurd e.symm oDC
 subst hbe
 have hal : al1 = al2 := as14 d0
 have hga : ga1 = ga2 := as14 d2
 subst hal
 subst hga
 have hx : R2.x = R4.x := by
  have e1 := as2 al1 be1 l1 l2 (A.x + B.x) (C.x + R2.x) p1 p3 hbe1.symm
  have e2 := as2 al1 be1 l3 l4 (B.x + C.x) (A.x + R4.x) q1 q3 hbe2.symm
  have e3 := as15 e1
  have e4 := as15 e2
  rw [e3, e4]; exact as16 _ _ _ _
 rw [← hx] at f2S
 rcases K.z _ _ (as7 _ _ _ _ _ _ f1S f2S) with e | e
 ·exfalso
  subst e
  have e1 : A.x + B.x = C.x + R2.x := as11 ((p1.symm.trans (as10 al1 l1)).trans ((as10 al1 l2).symm.trans p3))
  have e2 : A.x * B.x = C.x * R2.x := (p2.symm.trans (as10 ga1 v1)).trans ((as10 ga1 v2).symm.trans p4)
  have hy := as9 l1 l2 v1 v2 R1.x R1.y hbe1.symm h1.yc y1 C.x
  rw [← h2.yb] at hy
  rcases K.z _ _ (as8 _ _ _ _ e1 e2) with e | e
  ·have e5 := sub_z e
   exact oAC (Opp.symm ⟨e5, by rw [hy, h1.ya, e5]⟩)
  ·have e5 := sub_z e
   exact oBC (Opp.symm ⟨e5, by rw [hy, h1.yb, e5]⟩)
 ·exact Af.ext hx (sub_z e)
/-- Three points, no two of them opposite; the third is neither of the others. -/
theorem assoc1 (K : Fld n) (hD : 4 * a * a * a + 27 * b * b ≠ 0) {A B C : Af n} {D S E S' : Option (Af n)} (hA : On a b A) (hC : On a b C)
 (oAB : ¬ Opp A B) (oBC : ¬ Opp B C) (oAC : ¬ Opp A C) (nAC : A ≠ C) (nBC : B ≠ C)
 (hd : Sum a b (some A) (some B) D) (hs : Sum a b D (some C) S) (he : Sum a b (some B) (some C) E) (hs' : Sum a b (some A) E S') : S = S' := by
 have hcE := Sum.cancel K hD he
 rcases hd with ⟨h, _⟩ | ⟨_, l1, v1, R1, h1, rfl⟩
 ·exact absurd h oAB
 rcases he with ⟨h, _⟩ | ⟨_, l3, v3, R3, h3, rfl⟩
 ·exact absurd h oBC
 have ho1 : R1 = C ↔ A = R3 := by
  constructor
  ·rintro rfl
   exact (h1.turn.uniq K h3 oBC).2.2
  ·rintro rfl
   exact (h1.uniq K h3.turn.turn oAB).2.2
 by_cases hRC : R1 = C
 ·have hAR := ho1.1 hRC
  subst hRC
  rcases hs with ⟨_, k⟩ | ⟨h, _⟩
  ·rcases hs' with ⟨_, k'⟩ | ⟨h, _⟩
   ·rw [k, k']
   ·exact absurd (by rw [hAR]; exact Opp.of R3) h
  ·exact absurd (Opp.of R1).symm h
 ·have hAR : A ≠ R3 := fun e => hRC (ho1.2 e)
  rcases hs with ⟨h, _⟩ | ⟨_, l2, v2, R2, h2, rfl⟩
  ·exact absurd (by rw [h.eq, Af.neg_neg]) hRC
  rcases hs' with ⟨h, _⟩ | ⟨_, l4, v4, R4, h4, rfl⟩
  ·exact absurd (by have := h.symm.eq; rw [this, Af.neg_neg]) hAR
  have hAE : A = B → A ≠ R3.neg := by
   rintro rfl e
   rw [← e] at hcE
   rcases hcE with ⟨_, h⟩ | ⟨h, _⟩
   ·cases h
   ·exact h (Opp.of A)
  rw [assoc0 K hA hC h1 h2 h3 h4 oAB oBC oAC hRC hAR hAE nAC nBC]
theorem neg_on {A : Option (Af n)} (h : OnO a b A) : OnO a b (neg A) := by
 cases A with
 | none => intro _ e; cases e
 | some P => intro Q e; obtain rfl := Option.some.inj e; exact (h P rfl).neg
/-- The sum is associative. -/
theorem assoc (K : Fld n) (hD : 4 * a * a * a + 27 * b * b ≠ 0) {A B C D S E S' : Option (Af n)} (hA : OnO a b A) (hB : OnO a b B) (hC : OnO a b C)
 (hd : Sum a b A B D) (hs : Sum a b D C S) (he : Sum a b B C E) (hs' : Sum a b A E S') : S = S' := by
 cases A with
 | none =>
  obtain rfl : D = B := hd
  obtain rfl : S' = E := hs'
  exact hs.uniq K he
 | some P =>
 cases B with
 | none =>
  obtain rfl : D = some P := hd
  obtain rfl : E = C := he
  exact hs.uniq K hs'
 | some Q =>
 cases C with
 | none =>
  obtain rfl : S = D := hs.comm
  obtain rfl : E = some Q := he
  exact hd.uniq K hs'
 | some R =>
 by_cases oAB : Opp P Q
 ·rcases hd with ⟨_, k⟩ | ⟨h, _⟩
  ·subst k
   obtain rfl : S = some R := hs
   have h1 := Sum.cancel K hD he
   rw [show neg (some Q) = some P by rw [oAB.eq]; exact neg_neg (some P)] at h1
   exact h1.comm.uniq K hs'
  ·exact absurd oAB h
 by_cases oBC : Opp Q R
 ·rcases he with ⟨_, k⟩ | ⟨h, _⟩
  ·subst k
   obtain rfl : S' = some P := hs'
   have h1 := Sum.cancel K hD hd.comm
   rw [show neg (some Q) = some R by rw [oBC.eq]; rfl] at h1
   exact hs.uniq K h1
  ·exact absurd oBC h
 by_cases oAC : Opp P R
 ·have e : neg (some P) = some R := by rw [oAC.eq]; rfl
  have h1 := Sum.cancel K hD hd
  rw [e] at h1
  have h2 := Sum.cancel K hD he.comm
  rw [show neg (some R) = some P by rw [← e]; exact neg_neg (some P)] at h2
  rw [hs.uniq K h1, hs'.uniq K h2.comm]
 by_cases nAC : P = R
 ·subst nAC
  have h1 := hd.comm.uniq K he
  subst h1
  exact hs.comm.uniq K hs'
 by_cases nBC : Q = R
 ·subst nBC
  -- (P + Q) + Q and P + (Q + Q): as (Q + Q) + P and Q + (Q + P)
  exact (assoc1 K hD (hB Q rfl) (hA P rfl) oBC (fun h => oAB h.symm) (fun h => oAB h.symm) (fun h => nAC h.symm) (fun h => nAC h.symm) he hs'.comm hd.comm hs.comm).symm
 ·exact assoc1 K hD (hA P rfl) (hC R rfl) oAB oBC oAC nAC nBC hd hs he hs'
end Go.Ec
/- The curve's points as a group, and multiples. -/
set_option autoImplicit false
namespace Go.Ec
/-- A curve over a field. -/
structure Cv (n : Nat) [NeZero n] where
 a : Fin n
 b : Fin n
 K : Fld n
 D : 4 * a * a * a + 27 * b * b ≠ 0
variable {n : Nat} [NeZero n]
structure E (c : Cv n) where
 p : Option (Af n)
 on : OnO c.a c.b p
variable {c : Cv n}
theorem E.ext {A B : E c} (h : A.p = B.p) : A = B := by
 obtain ⟨p, hp⟩ := A
 obtain ⟨q, hq⟩ := B
 dsimp only at h
 subst h
 rfl
def E.zero : E c := ⟨none, fun _ e => by cases e⟩
noncomputable def E.add (A B : E c) : E c := ⟨(Sum.ex c.K A.on B.on).choose, Sum.on A.on B.on (Sum.ex c.K A.on B.on).choose_spec⟩
theorem E.add_sum (A B : E c) : Sum c.a c.b A.p B.p (E.add A B).p := (Sum.ex c.K A.on B.on).choose_spec
/-- Who is told as the sum is the sum. -/
theorem E.add_of {A B C : E c} (h : Sum c.a c.b A.p B.p C.p) : E.add A B = C := E.ext ((E.add_sum A B).uniq c.K h)
theorem E.comm (A B : E c) : E.add A B = E.add B A := E.add_of (E.add_sum B A).comm
theorem E.assoc (A B C : E c) : E.add (E.add A B) C = E.add A (E.add B C) :=
 E.ext (Go.Ec.assoc c.K c.D A.on B.on C.on (E.add_sum A B) (E.add_sum _ C) (E.add_sum B C) (E.add_sum A _))
theorem E.zero_add (A : E c) : E.add E.zero A = A := E.add_of rfl
theorem E.add_zero (A : E c) : E.add A E.zero = A := by rw [E.comm]; exact E.zero_add A
def E.neg (A : E c) : E c := ⟨Go.Ec.neg A.p, neg_on A.on⟩
theorem E.add_neg (A : E c) : E.add A A.neg = E.zero := E.add_of (by
 obtain ⟨p, hp⟩ := A
 cases p with
 | none => rfl
 | some P => exact .inl ⟨Opp.of P, rfl⟩)
/-- The k-th multiple. -/
noncomputable def E.mul : Nat → E c → E c
 | 0, _ => E.zero
 | k + 1, A => E.add (E.mul k A) A
theorem E.mul_zero (A : E c) : E.mul 0 A = E.zero := rfl
theorem E.mul_one (A : E c) : E.mul 1 A = A := E.zero_add A
theorem E.mul_add (j k : Nat) (A : E c) : E.mul (j + k) A = E.add (E.mul j A) (E.mul k A) := by
 induction k with
 | zero => exact (E.add_zero _).symm
 | succ k ih =>
  show E.add (E.mul (j + k) A) A = E.add (E.mul j A) (E.add (E.mul k A) A)
  rw [ih, E.assoc]
theorem E.mul_z (k : Nat) : E.mul k (E.zero : E c) = E.zero := by
 induction k with
 | zero => rfl
 | succ k ih => show E.add (E.mul k E.zero) E.zero = _; rw [ih, E.zero_add]
theorem E.mul_mul (j k : Nat) (A : E c) : E.mul (j * k) A = E.mul j (E.mul k A) := by
 induction j with
 | zero => rw [Nat.zero_mul]; rfl
 | succ j ih => rw [Nat.succ_mul, E.mul_add, ih]; rfl
theorem E.mul_comm (j k : Nat) (A : E c) : E.mul j (E.mul k A) = E.mul k (E.mul j A) := by rw [← E.mul_mul, Nat.mul_comm, E.mul_mul]
theorem E.mul_gcd {A : E c} (m k : Nat) : E.mul m A = E.zero → E.mul k A = E.zero → E.mul (Nat.gcd m k) A = E.zero := by
 induction m, k using Nat.gcd.induction with
 | H0 k => intro _ h; rw [Nat.gcd_zero_left]; exact h
 | H1 m k _ ih =>
  intro h1 h2
  rw [Nat.gcd_rec]
  refine ih ?_ h1
  have e := Nat.div_add_mod k m
  rw [← e, E.mul_add, Nat.mul_comm, E.mul_mul, h1, E.mul_z, E.zero_add] at h2
  exact h2
/-- Where the order is prime, no lesser multiple vanishes. -/
theorem E.mul_ne {A : E c} {q : Nat} (hq : ∀ k, 0 < k → k < q → Nat.gcd k q = 1) (h : E.mul q A = E.zero) (hA : A ≠ E.zero) {k : Nat} (h0 : 0 < k) (hk : k < q) : E.mul k A ≠ E.zero := fun e => by
 have := E.mul_gcd k q e h
 rw [hq k h0 hk, E.mul_one] at this
 exact hA this
/-- A multiple counts modulo the order. -/
theorem E.mul_mod {A : E c} {q : Nat} (h : E.mul q A = E.zero) (k : Nat) : E.mul (k % q) A = E.mul k A := by
 have e := Nat.div_add_mod k q
 conv => rhs; rw [← e]
 rw [E.mul_add, Nat.mul_comm, E.mul_mul, h, E.mul_z, E.zero_add]
end Go.Ec
/- Points without divisions: their double, their sum. -/
set_option autoImplicit false
namespace Go.Ec
variable {n : Nat} [NeZero n]
structure Jp (n : Nat) where
 X : Fin n
 Y : Fin n
 Z : Fin n
def jdbl0 (p : Jp n) : Jp n :=
 let de := p.Z * p.Z
 let ga := p.Y * p.Y
 let be := p.X * ga
 let al := (p.X - de) * (p.X + de) + ((p.X - de) * (p.X + de) + (p.X - de) * (p.X + de))
 let fo := (be + be) + (be + be)
 let x := al * al - (fo + fo)
 let g := (((ga * ga + ga * ga) + (ga * ga + ga * ga)) + ((ga * ga + ga * ga) + (ga * ga + ga * ga)))
 ⟨x, al * (fo - x) - g, (p.Y + p.Z) * (p.Y + p.Z) - ga - de⟩
def jdbl (p : Jp n) : Jp n := if p.Z = 0 then p else jdbl0 p
def jadd (p q : Jp n) : Jp n :=
 if p.Z = 0 then q else if q.Z = 0 then p else
  let pp := p.Z * p.Z
  let qq := q.Z * q.Z
  let u := p.X * qq
  let v := q.X * pp
  let s := p.Y * (qq * q.Z)
  let t := q.Y * (pp * p.Z)
  let h := v - u
  let r := t - s
  if h = 0 then (if r = 0 then jdbl p else ⟨0, 0, 0⟩) else
   let hh := h * h
   let hhh := hh * h
   let w := u * hh
   let x := r * r - hhh - (w + w)
   ⟨x, r * (w - x) - s * hhh, h * (p.Z * q.Z)⟩
/-- Which point it is. -/
def Rep (j : Jp n) (A : Option (Af n)) : Prop := (j.Z = 0 ∧ A = none) ∨ (j.Z ≠ 0 ∧ ∃ P, A = some P ∧ j.X = P.x * (j.Z * j.Z) ∧ j.Y = P.y * (j.Z * j.Z * j.Z))
theorem jd1 (y Z : Fin n) : (y * (Z * Z * Z) + Z) * (y * (Z * Z * Z) + Z) - y * (Z * Z * Z) * (y * (Z * Z * Z)) - Z * Z = 2 * y * (Z * Z * Z * Z) := by grobner
theorem jd2 (x y Z l : Fin n) (h : l * (2 * y) = 3 * x * x + -3) : (x * (Z * Z) - Z * Z) * (x * (Z * Z) + Z * Z) + ((x * (Z * Z) - Z * Z) * (x * (Z * Z) + Z * Z) + (x * (Z * Z) - Z * Z) * (x * (Z * Z) + Z * Z)) = l * (2 * y * (Z * Z * Z * Z)) := by
 have : l * (2 * y * (Z * Z * Z * Z)) = l * (2 * y) * (Z * Z * Z * Z) := by clear h; grobner
 rw [this, h]; clear this h; grobner
theorem jd3 (x y Z : Fin n) : (x * (Z * Z) * (y * (Z * Z * Z) * (y * (Z * Z * Z))) + x * (Z * Z) * (y * (Z * Z * Z) * (y * (Z * Z * Z)))) + (x * (Z * Z) * (y * (Z * Z * Z) * (y * (Z * Z * Z))) + x * (Z * Z) * (y * (Z * Z * Z) * (y * (Z * Z * Z)))) = x * ((2 * y * (Z * Z * Z * Z)) * (2 * y * (Z * Z * Z * Z))) := by grobner
theorem jd4 (y Z g : Fin n) (h : g = y * (Z * Z * Z) * (y * (Z * Z * Z))) : (((g * g + g * g) + (g * g + g * g)) + ((g * g + g * g) + (g * g + g * g))) = y * ((2 * y * (Z * Z * Z * Z)) * (2 * y * (Z * Z * Z * Z)) * (2 * y * (Z * Z * Z * Z))) := by
 subst h; grobner
theorem jd5 (l x z : Fin n) : l * z * (l * z) - (x * (z * z) + x * (z * z)) = (l * l - x - x) * (z * z) := by grobner
theorem jd6 (l x y z : Fin n) : l * z * (x * (z * z) - (l * l - x - x) * (z * z)) - y * (z * z * z) = -(l * (l * l - x - x) + (y - l * x)) * (z * z * z) := by grobner
theorem Fld.mul0 (K : Fld n) {u v : Fin n} (hu : u ≠ 0) (hv : v ≠ 0) : u * v ≠ 0 := fun e => by
 rcases K.z _ _ e with e | e
 ·exact hu e
 ·exact hv e
theorem jdbl_rep {c : Cv n} (ha : c.a = -3) {j : Jp n} {A : E c} (h : Rep j A.p) : Rep (jdbl j) (E.add A A).p := by
 obtain ⟨X, Y, Z⟩ := j
 obtain ⟨p, hp⟩ := A
 rcases h with ⟨hz, e⟩ | ⟨hz, P, e, hX, hY⟩
 ·dsimp only at hz e
  subst hz
  subst e
  rw [show E.add ⟨none, hp⟩ ⟨none, hp⟩ = E.zero from E.add_of rfl]
  left
  exact ⟨by unfold jdbl; rw [if_pos rfl], rfl⟩
 ·dsimp only at hz e hX hY
  subst e
  have hon := hp P rfl
  subst hX
  subst hY
  have hj : jdbl (⟨P.x * (Z * Z), P.y * (Z * Z * Z), Z⟩ : Jp n) = jdbl0 ⟨P.x * (Z * Z), P.y * (Z * Z * Z), Z⟩ := by unfold jdbl; rw [if_neg hz]
  rw [hj]
  have hZ : (jdbl0 (⟨P.x * (Z * Z), P.y * (Z * Z * Z), Z⟩ : Jp n)).Z = 2 * P.y * (Z * Z * Z * Z) := jd1 P.y Z
  by_cases hy : P.y = 0
  ·left
   refine ⟨by rw [hZ, hy]; clear hZ hj hp hon hz; grobner, ?_⟩
   have : E.add (⟨some P, hp⟩ : E c) ⟨some P, hp⟩ = E.zero := E.add_of (.inl ⟨⟨rfl, by rw [hy]; clear hZ hj hp hon hz; grobner⟩, rfl⟩)
   rw [this]; rfl
  ·right
   have hz2 : 2 * P.y * (Z * Z * Z * Z) ≠ 0 := c.K.mul0 (c.K.mul0 c.K.two hy) (c.K.mul0 (c.K.mul0 (c.K.mul0 hz hz) hz) hz)
   obtain ⟨i, hi⟩ := c.K.inv (2 * P.y) (c.K.mul0 c.K.two hy)
   have hl : (3 * P.x * P.x + c.a) * i * (2 * P.y) = 3 * P.x * P.x + c.a := by
    have : (3 * P.x * P.x + c.a) * i * (2 * P.y) = (3 * P.x * P.x + c.a) * (2 * P.y * i) := by clear hi hz2 hZ hj hon hz; grobner
    rw [this, hi]; clear this hi hz2 hZ hj hon hz; grobner
   generalize (3 * P.x * P.x + c.a) * i = l at hl
   have hcol := col_of c.K hon hon (.inr ⟨rfl, hy, hl⟩)
   have hno : ¬ Opp P P := fun e => hy (c.K.self e.2)
   have hsum : E.add (⟨some P, hp⟩ : E c) ⟨some P, hp⟩ = ⟨some (Af.neg ⟨l * l - P.x - P.x, l * (l * l - P.x - P.x) + (P.y - l * P.x)⟩), fun Q e => by obtain rfl := Option.some.inj e; exact hcol.turn.turn.on.neg⟩ := E.add_of (.inr ⟨hno, l, _, _, hcol, rfl⟩)
   refine ⟨by rw [hZ]; exact hz2, _, by rw [hsum], ?_, ?_⟩
   ·rw [hZ]
    show _ = (l * l - P.x - P.x) * _
    have e1 := jd2 P.x P.y Z l (by rw [hl, ha])
    have e2 := jd3 P.x P.y Z
    show ((P.x * (Z * Z) - Z * Z) * (P.x * (Z * Z) + Z * Z) + ((P.x * (Z * Z) - Z * Z) * (P.x * (Z * Z) + Z * Z) + (P.x * (Z * Z) - Z * Z) * (P.x * (Z * Z) + Z * Z))) * _ - _ = _
    rw [e1, e2]
    exact jd5 l P.x _
   ·rw [hZ]
    show _ = -(l * (l * l - P.x - P.x) + (P.y - l * P.x)) * _
    have e1 := jd2 P.x P.y Z l (by rw [hl, ha])
    have e2 := jd3 P.x P.y Z
    have e3 := jd4 P.y Z _ rfl
    show ((P.x * (Z * Z) - Z * Z) * (P.x * (Z * Z) + Z * Z) + ((P.x * (Z * Z) - Z * Z) * (P.x * (Z * Z) + Z * Z) + (P.x * (Z * Z) - Z * Z) * (P.x * (Z * Z) + Z * Z))) * (_ - (((P.x * (Z * Z) - Z * Z) * (P.x * (Z * Z) + Z * Z) + ((P.x * (Z * Z) - Z * Z) * (P.x * (Z * Z) + Z * Z) + (P.x * (Z * Z) - Z * Z) * (P.x * (Z * Z) + Z * Z))) * _ - _)) - _ = _
    rw [e1, e2, e3, jd5 l P.x]
    exact jd6 l P.x P.y _
theorem ja1 (x1 x2 Z W : Fin n) : x2 * (W * W) * (Z * Z) - x1 * (Z * Z) * (W * W) = (x2 - x1) * ((Z * W) * (Z * W)) := by grobner
theorem ja2 (y1 y2 Z W : Fin n) : y2 * (W * W * W) * (Z * Z * Z) - y1 * (Z * Z * Z) * (W * W * W) = (y2 - y1) * ((Z * W) * (Z * W) * (Z * W)) := by grobner
theorem ja3 (l x1 x2 z h r : Fin n) (hh : h = (x2 - x1) * (z * z)) (hr : r = l * (h * z)) : r * r - h * h * h - (x1 * (z * z) * (h * h) + x1 * (z * z) * (h * h)) = (l * l - x1 - x2) * ((h * z) * (h * z)) := by
 have e : h * h * h = (x2 - x1) * (z * z) * (h * h) := by rw [← hh]; clear hh hr; grobner
 rw [e, hr]; clear e hh hr; grobner
theorem ja4 (l x1 x2 y1 z h r : Fin n) (hr : r = l * (h * z)) : r * (x1 * (z * z) * (h * h) - (l * l - x1 - x2) * ((h * z) * (h * z))) - y1 * (z * z * z) * (h * h * h) = -(l * (l * l - x1 - x2) + (y1 - l * x1)) * ((h * z) * (h * z) * (h * z)) := by
 rw [hr]; clear hr; grobner
theorem ja5 (x Z W : Fin n) : x * (Z * Z) * (W * W) = x * ((Z * W) * (Z * W)) := by grobner
theorem ja6 (y Z W : Fin n) : y * (Z * Z * Z) * (W * W * W) = y * ((Z * W) * (Z * W) * (Z * W)) := by grobner
theorem ja7 (l x1 x2 y1 y2 : Fin n) (h : l * (x1 - x2) = y1 - y2) : y2 - y1 = l * (x2 - x1) := by
 have e : y2 - y1 = -(y1 - y2) := by clear h; grobner
 rw [e, ← h]; clear e h; grobner
theorem ja9 (l d z : Fin n) : l * d * (z * z * z) = l * (d * (z * z) * z) := by grobner
theorem ja10 (u : Fin n) : u - u = 0 := by grobner
theorem ja8 {u v : Fin n} (h : u - v = 0) : v = u := (sub_z h).symm
theorem jadd_rep {c : Cv n} (ha : c.a = -3) {j k : Jp n} {A B : E c} (h : Rep j A.p) (g : Rep k B.p) : Rep (jadd j k) (E.add A B).p := by
 obtain ⟨X, Y, Z⟩ := j
 obtain ⟨U, V, W⟩ := k
 have hj := h
 obtain ⟨p, hp⟩ := A
 obtain ⟨q, hq⟩ := B
 rcases h with ⟨hz, e⟩ | ⟨hz, P, e, hX, hY⟩
 ·dsimp only at hz e
  subst hz
  subst e
  rw [show E.add ⟨none, hp⟩ ⟨q, hq⟩ = (⟨q, hq⟩ : E c) from E.add_of rfl]
  unfold jadd
  rw [if_pos rfl]
  exact g
 rcases g with ⟨hw, e'⟩ | ⟨hw, Q, e', hU, hV⟩
 ·dsimp only at hz hw e'
  subst hw
  subst e'
  rw [E.comm, show E.add ⟨none, hq⟩ ⟨p, hp⟩ = (⟨p, hp⟩ : E c) from E.add_of rfl]
  unfold jadd
  rw [if_neg hz, if_pos rfl]
  exact hj
 dsimp only at hz e hX hY hw e' hU hV
 subst e
 subst e'
 have hP := hp P rfl
 have hQ := hq Q rfl
 subst hX
 subst hY
 subst hU
 subst hV
 have hz1 : Z * W ≠ 0 := c.K.mul0 hz hw
 have hh := ja1 P.x Q.x Z W
 have hr : Q.y * (W * W * W) * (Z * Z * Z) - P.y * (Z * Z * Z) * (W * W * W) = (Q.y - P.y) * ((Z * W) * (Z * W) * (Z * W)) := ja2 P.y Q.y Z W
 have hjd : jadd (⟨P.x * (Z * Z), P.y * (Z * Z * Z), Z⟩ : Jp n) ⟨Q.x * (W * W), Q.y * (W * W * W), W⟩ =
  if Q.x * (W * W) * (Z * Z) - P.x * (Z * Z) * (W * W) = 0 then (if Q.y * (W * W * W) * (Z * Z * Z) - P.y * (Z * Z * Z) * (W * W * W) = 0 then jdbl ⟨P.x * (Z * Z), P.y * (Z * Z * Z), Z⟩ else ⟨0, 0, 0⟩) else
  ⟨(Q.y * (W * W * W) * (Z * Z * Z) - P.y * (Z * Z * Z) * (W * W * W)) * (Q.y * (W * W * W) * (Z * Z * Z) - P.y * (Z * Z * Z) * (W * W * W)) - (Q.x * (W * W) * (Z * Z) - P.x * (Z * Z) * (W * W)) * (Q.x * (W * W) * (Z * Z) - P.x * (Z * Z) * (W * W)) * (Q.x * (W * W) * (Z * Z) - P.x * (Z * Z) * (W * W)) - (P.x * (Z * Z) * (W * W) * ((Q.x * (W * W) * (Z * Z) - P.x * (Z * Z) * (W * W)) * (Q.x * (W * W) * (Z * Z) - P.x * (Z * Z) * (W * W))) + P.x * (Z * Z) * (W * W) * ((Q.x * (W * W) * (Z * Z) - P.x * (Z * Z) * (W * W)) * (Q.x * (W * W) * (Z * Z) - P.x * (Z * Z) * (W * W)))),
   (Q.y * (W * W * W) * (Z * Z * Z) - P.y * (Z * Z * Z) * (W * W * W)) * (P.x * (Z * Z) * (W * W) * ((Q.x * (W * W) * (Z * Z) - P.x * (Z * Z) * (W * W)) * (Q.x * (W * W) * (Z * Z) - P.x * (Z * Z) * (W * W))) - ((Q.y * (W * W * W) * (Z * Z * Z) - P.y * (Z * Z * Z) * (W * W * W)) * (Q.y * (W * W * W) * (Z * Z * Z) - P.y * (Z * Z * Z) * (W * W * W)) - (Q.x * (W * W) * (Z * Z) - P.x * (Z * Z) * (W * W)) * (Q.x * (W * W) * (Z * Z) - P.x * (Z * Z) * (W * W)) * (Q.x * (W * W) * (Z * Z) - P.x * (Z * Z) * (W * W)) - (P.x * (Z * Z) * (W * W) * ((Q.x * (W * W) * (Z * Z) - P.x * (Z * Z) * (W * W)) * (Q.x * (W * W) * (Z * Z) - P.x * (Z * Z) * (W * W))) + P.x * (Z * Z) * (W * W) * ((Q.x * (W * W) * (Z * Z) - P.x * (Z * Z) * (W * W)) * (Q.x * (W * W) * (Z * Z) - P.x * (Z * Z) * (W * W)))))) - P.y * (Z * Z * Z) * (W * W * W) * ((Q.x * (W * W) * (Z * Z) - P.x * (Z * Z) * (W * W)) * (Q.x * (W * W) * (Z * Z) - P.x * (Z * Z) * (W * W)) * (Q.x * (W * W) * (Z * Z) - P.x * (Z * Z) * (W * W))),
   (Q.x * (W * W) * (Z * Z) - P.x * (Z * Z) * (W * W)) * (Z * W)⟩ := by
  unfold jadd
  rw [if_neg hz, if_neg hw]
 rw [hjd]
 clear hjd
 rw [hh, hr, ja5 P.x Z W, ja6 P.y Z W]
 have hzz : (Z * W) * (Z * W) ≠ 0 := c.K.mul0 hz1 hz1
 by_cases hx : Q.x - P.x = 0
 ·have hx' : P.x = Q.x := ja8 hx
  have h0 : (Q.x - P.x) * ((Z * W) * (Z * W)) = 0 := by rw [hx]; clear hh hr hx hx' hP hQ hz hw hz1 hzz hj; grobner
  rw [if_pos h0]
  by_cases hy : Q.y - P.y = 0
  ·have hy' : P.y = Q.y := ja8 hy
   have h1 : (Q.y - P.y) * ((Z * W) * (Z * W) * (Z * W)) = 0 := by rw [hy]; clear hh hr hx hx' hP hQ hz hw hz1 hzz hj hy hy' h0; grobner
   rw [if_pos h1]
   have hPQ : P = Q := Af.ext hx' hy'
   subst hPQ
   exact jdbl_rep ha (A := ⟨some P, hp⟩) (.inr ⟨hz, P, rfl, rfl, rfl⟩)
  ·have h1 : (Q.y - P.y) * ((Z * W) * (Z * W) * (Z * W)) ≠ 0 := c.K.mul0 hy (c.K.mul0 hzz hz1)
   rw [if_neg h1]
   have ho : Opp P Q := by
    rcases On.opp c.K hP hQ hx' with e | e
    ·exact absurd (by rw [e]; exact ja10 _) hy
    ·exact e
   rw [show E.add (⟨some P, hp⟩ : E c) ⟨some Q, hq⟩ = E.zero from E.add_of (.inl ⟨ho, rfl⟩)]
   exact .inl ⟨rfl, rfl⟩
 ·have h0 : (Q.x - P.x) * ((Z * W) * (Z * W)) ≠ 0 := c.K.mul0 hx hzz
  rw [if_neg h0]
  have hne : P.x ≠ Q.x := fun e => hx (z_sub e.symm)
  have hno : ¬ Opp P Q := fun e => hne e.1
  obtain ⟨l, hl⟩ := c.K.slope (a := c.a) hP hQ hno
  have hcol := col_of c.K hP hQ hl
  rcases hl with ⟨_, hl⟩ | ⟨e, _⟩
  ·have hsum : E.add (⟨some P, hp⟩ : E c) ⟨some Q, hq⟩ = ⟨some (Af.neg ⟨l * l - P.x - Q.x, l * (l * l - P.x - Q.x) + (P.y - l * P.x)⟩), fun S e => by obtain rfl := Option.some.inj e; exact hcol.turn.turn.on.neg⟩ := E.add_of (.inr ⟨hno, l, _, _, hcol, rfl⟩)
   rw [hsum]
   have hrl : (Q.y - P.y) * ((Z * W) * (Z * W) * (Z * W)) = l * ((Q.x - P.x) * ((Z * W) * (Z * W)) * (Z * W)) := by
    rw [ja7 l P.x Q.x P.y Q.y hl]; exact ja9 _ _ _
   refine .inr ⟨c.K.mul0 h0 hz1, _, rfl, ?_, ?_⟩
   ·exact ja3 l P.x Q.x (Z * W) _ _ rfl hrl
   ·show _ = -(l * (l * l - P.x - Q.x) + (P.y - l * P.x)) * _
    dsimp only
    rw [ja3 l P.x Q.x (Z * W) _ _ rfl hrl]
    exact ja4 l P.x Q.x P.y (Z * W) _ _ hrl
  ·exact absurd (congrArg Af.x e) hne
end Go.Ec
