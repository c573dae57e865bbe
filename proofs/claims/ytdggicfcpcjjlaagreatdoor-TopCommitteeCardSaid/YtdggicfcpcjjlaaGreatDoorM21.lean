/- Part 21 of the texts below the row: MulP, Num21, Num22, TysD, Num23, Num24. -/
import Derived.Test.YtdggicfcpcjjlaaGreatDoorM1
import Derived.Test.YtdggicfcpcjjlaaGreatDoorM7
import Derived.Test.YtdggicfcpcjjlaaGreatDoorM13
import Derived.Test.YtdggicfcpcjjlaaGreatDoorM14
import Derived.Test.YtdggicfcpcjjlaaGreatDoorM19
import Derived.Test.YtdggicfcpcjjlaaGreatDoorM20
/- Multiples by windows of four bits. -/
set_option autoImplicit false
namespace Go.Ec
variable {n : Nat} [NeZero n] {c : Cv n}
def jstep (w : Nat → Jp n) (r : Jp n) (d : Nat) : Jp n := jadd (jdbl (jdbl (jdbl (jdbl r)))) (w d)
theorem E.mul2 (k : Nat) (A : E c) : E.add (E.mul k A) (E.mul k A) = E.mul (2 * k) A := by rw [Nat.two_mul, E.mul_add]
theorem jstep_rep (ha : c.a = -3) {w : Nat → Jp n} {A : E c} (hw : ∀ d, d < 16 → Rep (w d) (E.mul d A).p) {r : Jp n} {k d : Nat} (hd : d < 16) (h : Rep r (E.mul k A).p) : Rep (jstep w r d) (E.mul (16 * k + d) A).p := by
 have h1 := jdbl_rep ha h
 rw [E.mul2] at h1
 have h2 := jdbl_rep ha h1
 rw [E.mul2] at h2
 have h3 := jdbl_rep ha h2
 rw [E.mul2] at h3
 have h4 := jdbl_rep ha h3
 rw [E.mul2, show 2 * (2 * (2 * (2 * k))) = 16 * k by omega] at h4
 have h5 := jadd_rep ha h4 (hw d hd)
 rw [← E.mul_add] at h5
 exact h5
def numD (ds : List Nat) (k : Nat) : Nat := ds.foldl (fun k d => 16 * k + d) k
theorem jraw_rep (ha : c.a = -3) {w : Nat → Jp n} {A : E c} (hw : ∀ d, d < 16 → Rep (w d) (E.mul d A).p) : ∀ (ds : List Nat) (r : Jp n) (k : Nat), (∀ d ∈ ds, d < 16) → Rep r (E.mul k A).p → Rep (ds.foldl (jstep w) r) (E.mul (numD ds k) A).p
 | [], _, _, _, h => h
 | d :: ds, r, k, hd, h => jraw_rep ha hw ds _ _ (fun e he => hd e (by simp [he])) (jstep_rep ha hw (hd d (by simp)) h)
/-- The window: from the point itself on, each by the ones before. -/
theorem win_rep (ha : c.a = -3) {w : Nat → Jp n} {A : E c} (h0 : Rep (w 0) none) (h1 : Rep (w 1) A.p) (h2 : ∀ i, 2 ≤ i → i < 16 → w i = if i % 2 = 0 then jdbl (w (i / 2)) else jadd (w (i - 1)) (w 1)) : ∀ i, i < 16 → Rep (w i) (E.mul i A).p := by
 intro i
 induction i using Nat.strongRecOn with
 | ind i ih =>
  intro hi
  by_cases e0 : i = 0
  ·subst e0; exact h0
  by_cases e1 : i = 1
  ·subst e1; rw [E.mul_one]; exact h1
  rw [h2 i (by omega) hi]
  split
  ·rename_i h
   have := jdbl_rep ha (ih (i / 2) (by omega) (by omega))
   rwa [E.mul2, show 2 * (i / 2) = i by omega] at this
  ·have h5 := jadd_rep ha (ih (i - 1) (by omega) (by omega)) h1
   have h6 : E.add (E.mul (i - 1) A) A = E.mul i A := by
    obtain ⟨j, rfl⟩ : ∃ j, i = j + 1 := ⟨i - 1, by omega⟩
    rfl
   rwa [h6] at h5
theorem rep_none : Rep (⟨0, 0, 0⟩ : Jp n) none := .inl ⟨rfl, rfl⟩
theorem rep_one (K : Fld n) (P : Af n) : Rep ⟨P.x, P.y, 1⟩ (some P) := by
 refine .inr ⟨fun e => ?_, P, rfl, ?_, ?_⟩
 ·have e' : (1 : Fin n) = 0 := e
  have : (2 : Fin n) = 0 := by
   have h : (2 : Fin n) = 1 + 1 := by grobner
   rw [h, e']; grobner
  exact K.two this
 ·show P.x = P.x * (1 * 1); grobner
 ·show P.y = P.y * (1 * 1 * 1); grobner
/-- What it is, with the inverse of its z. -/
theorem rep_out {j : Jp n} {P : Af n} (h : Rep j (some P)) {i : Fin n} (hi : j.Z * i = 1) : j.X * (i * i) = P.x ∧ j.Y * (i * i * i) = P.y := by
 rcases h with ⟨_, e⟩ | ⟨_, Q, e, h1, h2⟩
 ·cases e
 ·obtain rfl := Option.some.inj e
  have e1 : P.x * (j.Z * j.Z) * (i * i) = P.x * ((j.Z * i) * (j.Z * i)) := by clear h1 h2 hi; grobner
  have e2 : P.y * (j.Z * j.Z * j.Z) * (i * i * i) = P.y * ((j.Z * i) * (j.Z * i) * (j.Z * i)) := by clear h1 h2 hi e1; grobner
  rw [h1, h2, e1, e2, hi]
  clear e1 e2 h1 h2 hi
  constructor <;> grobner
end Go.Ec
/- How many bits a number of four words has: enough; its digits of base 16. -/
set_option autoImplicit false
namespace Go.Proofs
open Go.SL
theorem W4.at_l (x : W4) (i : Nat) (hi : i < 4) : x.l[i]? = some (u64 (x.at i)) := by
 match i, hi with
 | 0, _ => rfl
 | 1, _ => rfl
 | 2, _ => rfl
 | 3, _ => rfl
theorem bits0 {x : W4} (hx : x.ok) {K : Nat} (h : x.n < 18446744073709551616) (hk : x.a < K) : x.n < K := by
 have h1 := hx.a; have h2 := hx.b; have h3 := hx.c; have h4 := hx.d
 unfold W4.n at *; omega
theorem bits1 {x : W4} (hx : x.ok) {K : Nat} (h : x.n < 340282366920938463463374607431768211456) (hk : x.b < K) : x.n < 18446744073709551616 * K := by
 have h1 := hx.a; have h2 := hx.b; have h3 := hx.c; have h4 := hx.d
 unfold W4.n at *; omega
theorem bits2 {x : W4} (hx : x.ok) {K : Nat} (h : x.n < 6277101735386680763835789423207666416102355444464034512896) (hk : x.c < K) : x.n < 340282366920938463463374607431768211456 * K := by
 have h1 := hx.a; have h2 := hx.b; have h3 := hx.c; have h4 := hx.d
 unfold W4.n at *; omega
theorem bits3 {x : W4} (hx : x.ok) {K : Nat} (_ : x.n < 115792089237316195423570985008687907853269984665640564039457584007913129639936) (hk : x.d < K) : x.n < 6277101735386680763835789423207666416102355444464034512896 * K := by
 have h1 := hx.a; have h2 := hx.b; have h3 := hx.c; have h4 := hx.d
 unfold W4.n at *; omega
theorem bits_at {x : W4} (hx : x.ok) {g k : Nat} (hg : g < 4) (h : x.n < 2 ^ (64 * (g + 1))) (hk : x.at g < 2 ^ k) : x.n < 2 ^ (64 * g + k) := by
 rw [Nat.pow_add]
 generalize 2 ^ k = K at *
 have hc : g = 0 ∨ g = 1 ∨ g = 2 ∨ g = 3 := by omega
 rcases hc with rfl | rfl | rfl | rfl
 ·have := bits0 hx h hk; rw [show 2 ^ (64 * 0) = 1 from rfl, Nat.one_mul]; exact this
 ·exact bits1 hx h hk
 ·exact bits2 hx h hk
 ·exact bits3 hx h hk
attribute [local irreducible] J JL QOp JOp seqQ blockQ loopQ retQ slc cel hex star pur stars Does RV Ent pAt scopeQ
theorem llen_ok (E : World) (x : W4) (hx : x.ok) : Does Tryz.prog E 197 [x.v] [] fun r L => (∃ k : Nat, r = .int .i64 (k : Int) ∧ x.n < 2 ^ k ∧ k ≤ 256) ∧ L = [] := by
 refine Does.of Tryz.func197 rfl Tryz.ntmps197 rfl rfl fun F => ?_
 refine Xb ?_
 refine L_o rfl rfl rfl (O_box rfl fun b1 => ?_)
 refine Xn ?_
 refine Xa4 ?_
 refine J_loop (fun g : Nat => g ≤ 4 ∧ x.n < 2 ^ (64 * g)) (fun g => [(1, .pointer (some ⟨b1, 0, none⟩)), (3, .int .i64 ((g : Int) - 1))]) (fun _ => [cel b1 x.l 24, F]) (fun g => g) 4 ⟨by decide, W4.lt hx⟩ ⟨rfl, rfl, trivial⟩ (Ent.refl _) ?_
 rintro g ⟨hg, hb⟩
 cases g with
 | zero =>
  refine Xw ?_
  refine Xcz ?_
  refine X2 ?_
  refine XaA ?_
  refine Xaf ?_
  exact retQ_ret _ [] (.cons (RV_tmp rfl) .nil) ⟨⟨0, rfl, hb, by decide⟩, rfl⟩ (Ent.re [1] rfl)
 | succ j =>
  have hj : j < 4 := by omega
  refine XdX ?_
  refine Ln ?_
  refine Xac ?_
  refine J_seq ?_
  by_cases hz : x.at j = 0
  ·skip
   refine Xe ?_
   refine XeP ?_
   refine Xci ?_
   refine XaI ?_
   refine XV ?_
   refine Xe ?_
   refine Lq ((Q_sub rfl rfl (IntWalk.i64_in _ (by omega))).as (v' := .int .i64 ((j : Int) - 1)) (congrArg (Value.int .i64) (by omega))) ?_
   refine Xj ?_
   exact loopQ_normal j ⟨by omega, bits_at (k := 0) hx hj hb (by rw [hz]; decide)⟩ (Nat.lt_succ_self j) ⟨rfl, rfl, trivial⟩ (Ent.refl _)
  ·have hl := len64_ok E (x.at j) (W4.at_lt hx j)
   refine Xe ?_
   refine XeP ?_
   refine Xei ?_
   refine Xm ?_
   refine Xg ?_
   refine Lq ((Q_mul rfl rfl (IntWalk.i64_in _ (by omega))).as (v' := .int .i64 ((64 * j : Nat) : Int)) (congrArg (Value.int .i64) (by omega))) ?_
   refine Xd ?_
   refine XeP ?_
   refine L_o rfl rfl rfl (O_call [] [0,1] hl rfl rfl ?_)
   rintro _ _ ⟨⟨k, rfl, hk, hk2⟩, rfl⟩
   refine Xc ?_
   refine Lq ((Q_add rfl rfl (IntWalk.i64_in _ (by omega))).as (v' := .int .i64 ((64 * j + k : Nat) : Int)) (congrArg (Value.int .i64) (by omega))) ?_
   refine Xq ?_
   refine Xbc ?_
   refine XY ?_
   exact retQ_ret _ [] (.cons (RV_tmp rfl) .nil) ⟨⟨_, rfl, bits_at hx hj hb hk, by omega⟩, rfl⟩ (Ent.re [1] rfl)
end Go.Proofs
/- A number's digits of base 16. -/
set_option autoImplicit false
namespace Go.Proofs
open Go.SL
def tN : Ty Nat := ⟨3, 1, fun n => [.int .i64 (n : Int)], fun _ => rfl, by decide, fun a v hv => by simp at hv; subst hv; rfl⟩
instance : TyI Tryz.prog tN.e 1 (.int .i64 0) 8 := inferInstanceAs (TyI Tryz.prog 3 1 (.int .i64 0) 8)
instance : TyU Tryz.prog tN.e (.int .i64) := inferInstanceAs (TyU Tryz.prog 3 (.int .i64))
instance : TyU Tryz.prog 39 (.slice tN.e) := inferInstanceAs (TyU Tryz.prog 39 (.slice 3))
theorem shift16 {w r e : Nat} (he : e < 16) : (w + 18446744073709551616 * r) / 2 ^ (4 * e) % 16 = w / 2 ^ (4 * e) % 16 := by
 have e1 : 18446744073709551616 * r = 2 ^ (4 * e) * (16 * (2 ^ (60 - 4 * e) * r)) := by
  rw [show (18446744073709551616 : Nat) = 2 ^ (4 * e + (60 - 4 * e)) * 16 by rw [show 4 * e + (60 - 4 * e) = 60 by omega]]
  rw [Nat.pow_add]
  simp only [Nat.mul_comm, Nat.mul_left_comm]
 rw [e1, Nat.add_mul_div_left _ _ (Nat.two_pow_pos _)]
 omega
theorem word_at (x : W4) (h : x.ok) (j : Nat) (hj : j < 4) : ∃ r, x.n / 2 ^ (64 * j) = x.at j + 18446744073709551616 * r := by
 have h1 := h.a; have h2 := h.b; have h3 := h.c; have h4 := h.d
 have hc : j = 0 ∨ j = 1 ∨ j = 2 ∨ j = 3 := by omega
 rcases hc with rfl | rfl | rfl | rfl
 ·exact ⟨x.b + 18446744073709551616 * x.c + 340282366920938463463374607431768211456 * x.d, by show x.n / 1 = x.a + _; unfold W4.n; omega⟩
 ·exact ⟨x.c + 18446744073709551616 * x.d, by show x.n / 18446744073709551616 = x.b + _; unfold W4.n; omega⟩
 ·exact ⟨x.d, by show x.n / 340282366920938463463374607431768211456 = x.c + _; unfold W4.n; omega⟩
 ·exact ⟨0, by show x.n / 6277101735386680763835789423207666416102355444464034512896 = x.d + _; unfold W4.n; omega⟩
def dig (x q : Nat) : Nat := x / 16 ^ q % 16
theorem dig_at {x : W4} (h : x.ok) {q : Nat} (hq : q < 64) : x.at (q / 16) / 2 ^ (4 * (q % 16)) % 16 = dig x.n q := by
 obtain ⟨r, hr⟩ := word_at x h (q / 16) (by omega)
 have e : (16 : Nat) ^ q = 2 ^ (64 * (q / 16)) * 2 ^ (4 * (q % 16)) := by
  rw [← Nat.pow_add, show (16 : Nat) = 2 ^ 4 from rfl, ← Nat.pow_mul]
  congr 1; omega
 unfold dig
 rw [e, ← Nat.div_div_eq_div_mul, hr, shift16 (by omega)]
def digs (x n i : Nat) : List Nat := (List.range n).map fun j => if j < i then dig x (n - 1 - j) else 0
theorem digs_len (x n i : Nat) : (digs x n i).length = n := by simp [digs]
theorem digs_0 (x n : Nat) : digs x n 0 = List.replicate n 0 := by
 apply List.ext_getElem?
 intro j
 simp only [digs, List.getElem?_map, List.getElem?_replicate]
 by_cases h : j < n
 ·simp [h]
 ·simp [h]
theorem digs_set (x n i : Nat) (h : i < n) : (digs x n i).set i (dig x (n - 1 - i)) = digs x n (i + 1) := by
 apply List.ext_getElem?
 intro j
 rw [List.getElem?_set]
 simp only [digs, List.getElem?_map, List.length_map, List.length_range]
 by_cases h1 : j < n
 ·by_cases h2 : i = j
  ·subst h2; simp [h1]
  ·have : (j < i + 1) = (j < i) := by simp; omega
   simp [h1, h2, this]
 ·simp [h1]; omega
theorem digs_lt (x n i : Nat) : ∀ d ∈ digs x n i, d < 16 := by
 intro d hd
 obtain ⟨j, _, rfl⟩ := List.mem_map.1 hd
 split
 ·exact Nat.mod_lt _ (by decide)
 ·decide
theorem numD_pre (x n : Nat) (h : x < 16 ^ n) : ∀ i, i ≤ n → Ec.numD ((List.range i).map fun j => dig x (n - 1 - j)) 0 = x / 16 ^ (n - i)
 | 0, _ => by rw [Nat.sub_zero, Nat.div_eq_of_lt h]; rfl
 | i + 1, hi => by
  have ih := numD_pre x n h i (by omega)
  rw [List.range_succ, List.map_append]
  unfold Ec.numD at *
  rw [List.foldl_append, ih]
  simp only [List.map_cons, List.map_nil, List.foldl_cons, List.foldl_nil, dig]
  rw [show n - 1 - i = n - (i + 1) by omega, show n - i = (n - (i + 1)) + 1 by omega, Nat.pow_succ, ← Nat.div_div_eq_div_mul]
  omega
theorem numD_digs {x n : Nat} (h : x < 16 ^ n) : Ec.numD (digs x n n) 0 = x := by
 have := numD_pre x n h n (Nat.le_refl _)
 rw [Nat.sub_self, Nat.pow_zero, Nat.div_one] at this
 exact (congrArg (fun l => Ec.numD l 0) (List.map_congr_left fun j hj => by rw [if_pos (List.mem_range.1 hj)])).trans this
attribute [local irreducible] J JL QOp JOp seqQ blockQ loopQ retQ slc cel hex star pur stars Does RV Ent pAt scopeQ
theorem jdigits_ok (E : World) (x : W4) (hx : x.ok) : Does Tryz.prog E 178 [x.v] [] fun r L => ∃ (S : SV) (ds : List Nat), r = S.v ∧ L = [slc tN true S ds] ∧ (∀ d ∈ ds, d < 16) ∧ Ec.numD ds 0 = x.n ∧ ds.length ≤ 64 := by
 have hl := llen_ok E x hx
 refine Does.of Tryz.func178 rfl Tryz.ntmps178 rfl rfl fun F => ?_
 refine Xb ?_
 refine L_o rfl rfl rfl (O_box rfl fun b1 => ?_)
 refine Xi ?_
 refine Xo ?_
 refine L_o rfl rfl rfl (O_call [] [0,1] hl rfl rfl ?_)
 rintro _ _ ⟨⟨k, rfl, hk, hk2⟩, rfl⟩
 refine Xc ?_
 refine XaM ?_
 refine Lq ((Q_quo rfl rfl (by decide) (IntWalk.i64_quo _ _ (by omega))).as (v' := .int .i64 (((k + 3) / 4 : Nat) : Int)) (congrArg (Value.int .i64) (by omega))) ?_
 refine Xn ?_
 have hn : (k + 3) / 4 ≤ 64 := by omega
 have hx16 : x.n < 16 ^ ((k + 3) / 4) := by
  rw [show (16 : Nat) = 2 ^ 4 from rfl, ← Nat.pow_mul]
  exact Nat.lt_of_lt_of_le hk (Nat.pow_le_pow_right (by decide) (by omega))
 generalize (k + 3) / 4 = n at *
 refine Xe ?_
 refine L_o rfl rfl rfl (O_mk (τ := tN) n 0 rfl rfl rfl rfl rfl rfl (by omega) (by decide) (fun S => ?_))
 refine Xbf ?_
 refine Xba ?_
 rw [List.length_replicate, ← digs_0 x.n n]
 refine J_loop (fun i : Nat × SV => i.1 ≤ n) (fun i => [(1, .pointer (some ⟨b1, 0, none⟩)), (3, .int .i64 (n : Int)), (4, i.2.v), (14, .int .i64 (n : Int)), (15, .int .i64 (i.1 : Int))]) (fun i => [slc tN true i.2 (digs x.n n i.1), cel b1 x.l 24, F]) (fun i => n - i.1) (0, S) (Nat.zero_le _) ⟨rfl, rfl, rfl, rfl, rfl, trivial⟩ (Ent.refl _) ?_
 rintro ⟨i, S⟩ hi
 dsimp only at hi ⊢
 by_cases h : i < n
 ·have hj : n - 1 - i < 64 := by omega
  have e1 := dig_at hx hj
  have h16 : dig x.n (n - 1 - i) < 16 := Nat.mod_lt _ (by decide)
  generalize hq : n - 1 - i = q at *
  refine XR ?_
  refine Xx ?_
  refine XcA ?_
  refine Xd ?_
  refine Lq ((Q_sub rfl rfl (IntWalk.i64_in _ (by omega))).as (v' := .int .i64 (q : Int)) (congrArg (Value.int .i64) (by omega))) ?_
  refine Xbl ?_
  refine Xd ?_
  refine Lq ((Q_quo rfl rfl (by decide) (IntWalk.i64_quo _ _ (by omega))).as (v' := .int .i64 ((q / 16 : Nat) : Int)) (congrArg (Value.int .i64) (by omega))) ?_
  refine Lq (Q_ia (o' := q / 16) (q / 16) rfl rfl rfl (by omega) (by omega)) ?_
  refine Lq (Q_ld 1 rfl rfl rfl (W4.at_l x _ (by omega))) ?_
  refine Xd ?_
  refine Lq ((Q_rem rfl rfl (by decide) (IntWalk.rem_in _ _ (by omega))).as (v' := .int .i64 ((q % 16 : Nat) : Int)) (congrArg (Value.int .i64) (by omega))) ?_
  refine Lq ((Q_mul rfl rfl (IntWalk.i64_in _ (by omega))).as (v' := .int .i64 ((4 * (q % 16) : Nat) : Int)) (congrArg (Value.int .i64) (by omega))) ?_
  refine Lq (Q_shrN (x.at (q / 16)) (4 * (q % 16)) rfl rfl rfl rfl (by show _ ≤ 64; omega)) ?_
  refine Lq ((Q_andN (k := .u64) (x.at (q / 16) / 2 ^ (4 * (q % 16))) 15 rfl rfl rfl rfl (Nat.lt_of_le_of_lt (Nat.div_le_self _ _) (W4.at_lt hx _)) (by decide)).as (v' := u64 (dig x.n q)) (congrArg u64 ((Nat.and_two_pow_sub_one_eq_mod _ 4).trans e1))) ?_
  refine Lq (Q_cvt (r := ((dig x.n q : Nat) : Int)) rfl (IntWalk.i64_in _ (by omega))) ?_
  refine Lq (Q_ixAt 0 i rfl rfl rfl rfl (by rw [digs_len]; exact h) rfl) ?_
  refine L_s rfl rfl (O_stE 0 i 0 (dig x.n q) rfl rfl rfl rfl rfl rfl (by simp [Value.oneCell', Value.cells]) (by rw [digs_len]; exact h) (Nat.le_refl 1) rfl ?_)
  refine Xas ?_
  rw [← hq, digs_set x.n n i h]
  refine Xh ?_
  refine Xbu ?_
  exact loopQ_normal (i + 1, S) (by dsimp only; omega) (by dsimp only; omega) ⟨rfl, rfl, rfl, rfl, rfl, trivial⟩ (Ent.refl _)
 ·obtain rfl : i = n := by omega
  refine Xae ?_
  refine Xg ?_
  refine Xq ?_
  exact retQ_ret _ [slc tN true S (digs x.n i i)] (.cons (RV_tmp rfl) .nil) ⟨S, _, rfl, rfl, digs_lt _ _ _, numD_digs hx16, by rw [digs_len]; exact hn⟩ (Ent.re [0,2] rfl)
end Go.Proofs
/- How bytes lie in cells. -/
set_option autoImplicit false
namespace Go.Proofs
open Go.SL
def tB : Ty UInt8 := ⟨5, 1, fun b => [.int .u8 (b.toNat : Int)], fun _ => rfl, by decide, fun a v hv => by simp at hv; subst hv; rfl⟩
theorem tB_enc (b : UInt8) : tB.enc b = [.int .u8 (b.toNat : Int)] := rfl
instance : TyU Tryz.prog tB.e (.int .u8) := inferInstanceAs (TyU Tryz.prog 5 (.int .u8))
instance : TyI Tryz.prog tB.e 1 (.int .u8 0) 1 := inferInstanceAs (TyI Tryz.prog 5 1 (.int .u8 0) 1)
instance : TyU Tryz.prog 81 (.slice tB.e) := inferInstanceAs (TyU Tryz.prog 81 (.slice 5))
end Go.Proofs
/- Numbers as 32 bytes. -/
set_option autoImplicit false
namespace Go.Proofs
open Go.SL
def clB (l : List UInt8) : List Value := l.map fun b : UInt8 => Value.int .u8 (b.toNat : Int)
theorem clB_flat (l : List UInt8) : tB.flat l = clB l := by
 induction l with
 | nil => rfl
 | cons b l ih => rw [tB.flat_cons, ih]; rfl
theorem clB_set (l : List UInt8) (j : Nat) (b : UInt8) : (clB l).set j (.int .u8 (b.toNat : Int)) = clB (l.set j b) := by unfold clB; rw [List.map_set]
theorem clB_len (l : List UInt8) : (clB l).length = l.length := by simp [clB]
theorem shift256 {w r e : Nat} (he : e < 8) : (w + 18446744073709551616 * r) / 2 ^ (8 * e) % 256 = w / 2 ^ (8 * e) % 256 := by
 have e1 : 18446744073709551616 * r = 2 ^ (8 * e) * (256 * (2 ^ (56 - 8 * e) * r)) := by
  rw [show (18446744073709551616 : Nat) = 2 ^ (8 * e + (56 - 8 * e)) * 256 by rw [show 8 * e + (56 - 8 * e) = 56 by omega]]
  rw [Nat.pow_add]
  simp only [Nat.mul_assoc, Nat.mul_comm, Nat.mul_left_comm]
 rw [e1, Nat.add_mul_div_left _ _ (Nat.two_pow_pos _)]
 omega
def byt (x q : Nat) : UInt8 := UInt8.ofNat (x / 256 ^ q)
theorem byt_n (x q : Nat) : (byt x q).toNat = x / 256 ^ q % 256 := by simp [byt]
theorem byt_at {x : W4} (h : x.ok) {q : Nat} (hq : q < 32) : x.at (q / 8) / 2 ^ (8 * (q % 8)) % 2 ^ 8 = (byt x.n q).toNat := by
 obtain ⟨r, hr⟩ := word_at x h (q / 8) (by omega)
 have e : (256 : Nat) ^ q = 2 ^ (64 * (q / 8)) * 2 ^ (8 * (q % 8)) := by
  rw [← Nat.pow_add, show (256 : Nat) = 2 ^ 8 from rfl, ← Nat.pow_mul]
  congr 1; omega
 rw [byt_n, e, ← Nat.div_div_eq_div_mul, hr, shift256 (by omega)]
/-- The bytes of a number, the highest first; those from i on from below are told. -/
def btsI (x i : Nat) : List UInt8 := (List.range 32).map fun j => if 31 - j < i then byt x (31 - j) else 0
def bts (x : Nat) : List UInt8 := (List.range 32).map fun j => byt x (31 - j)
theorem btsI_len (x i : Nat) : (btsI x i).length = 32 := by simp [btsI]
theorem bts_len (x : Nat) : (bts x).length = 32 := by simp [bts]
theorem btsI_32 (x : Nat) : btsI x 32 = bts x := List.map_congr_left fun j _ => by rw [if_pos (by omega)]
theorem btsI_set (x i : Nat) (h : i < 32) : (btsI x i).set (31 - i) (byt x i) = btsI x (i + 1) := by
 apply List.ext_getElem?
 intro j
 rw [List.getElem?_set]
 simp only [btsI, List.getElem?_map, List.length_map, List.length_range]
 by_cases h1 : j < 32
 ·by_cases h2 : 31 - i = j
  ·have e3 : 31 - j = i := by omega
   simp [h1, h2, e3]
  ·have : (31 - j < i + 1) = (31 - j < i) := by simp; omega
   simp [h1, h2, this]
 ·simp [h1]; omega
def numB (s : List UInt8) : Nat := s.foldl (fun n b => 256 * n + b.toNat) 0
theorem numB_app (s : List UInt8) (b : UInt8) : numB (s ++ [b]) = 256 * numB s + b.toNat := by unfold numB; rw [List.foldl_append]; rfl
theorem numB_cons (b : UInt8) (s : List UInt8) : numB (b :: s) = b.toNat * 256 ^ s.length + numB s := by
 have key : ∀ (s : List UInt8) (n : Nat), s.foldl (fun n b => 256 * n + b.toNat) n = n * 256 ^ s.length + s.foldl (fun n b => 256 * n + b.toNat) 0 := by
  intro s
  induction s with
  | nil => intro n; simp
  | cons c s ih =>
   intro n
   rw [List.foldl_cons, List.foldl_cons, ih, ih (256 * 0 + c.toNat), List.length_cons, Nat.pow_succ, Nat.mul_zero, Nat.zero_add, Nat.add_mul, Nat.add_assoc]
   rw [Nat.mul_comm 256 n, Nat.mul_assoc, Nat.mul_comm 256]
 unfold numB
 rw [List.foldl_cons, key]
 simp
theorem numB_lt : ∀ s : List UInt8, numB s < 256 ^ s.length
 | [] => by decide
 | b :: s => by
  rw [numB_cons, List.length_cons, Nat.pow_succ]
  have h1 := numB_lt s
  have h2 := b.toNat_lt
  have h3 : (b.toNat + 1) * 256 ^ s.length ≤ 256 * 256 ^ s.length := Nat.mul_le_mul_right _ (by omega)
  rw [Nat.add_mul, Nat.one_mul] at h3
  omega
theorem numB_pre (x : Nat) (h : x < 256 ^ 32) : ∀ i, i ≤ 32 → numB ((List.range i).map fun j => byt x (31 - j)) = x / 256 ^ (32 - i)
 | 0, _ => by rw [Nat.sub_zero, Nat.div_eq_of_lt h]; rfl
 | i + 1, hi => by
  have ih := numB_pre x h i (by omega)
  rw [List.range_succ, List.map_append, List.map_cons, List.map_nil, numB_app, ih, byt_n]
  rw [show 31 - i = 32 - (i + 1) by omega, show 32 - i = (32 - (i + 1)) + 1 by omega, Nat.pow_succ, ← Nat.div_div_eq_div_mul]
  omega
theorem numB_bts {x : Nat} (h : x < 115792089237316195423570985008687907853269984665640564039457584007913129639936) : numB (bts x) = x := by
 have := numB_pre x h 32 (Nat.le_refl _)
 rw [Nat.sub_self, Nat.pow_zero, Nat.div_one] at this
 exact this
attribute [local irreducible] J JL QOp JOp seqQ blockQ loopQ retQ slc cel hex star pur stars Does RV Ent pAt scopeQ
theorem lbytes_ok (E : World) (x : W4) (hx : x.ok) : Does Tryz.prog E 61 [x.v] [] fun r L => r = str (bts x.n) ∧ L = [] := by
 refine Does.of Tryz.func61 rfl Tryz.ntmps61 rfl rfl fun F => ?_
 refine Xb ?_
 refine L_o rfl rfl rfl (O_box rfl fun b1 => ?_)
 refine XC ?_
 refine L_o rfl rfl rfl (O_alloc fun b3 => ?_)
 refine Xt ?_
 refine Xg ?_
 refine XP ?_
 refine J_loop (fun i : Nat => i ≤ 32) (fun i => [(1, .pointer (some ⟨b1, 0, none⟩)), (3, .pointer (some ⟨b3, 0, none⟩)), (5, .int .i64 (i : Int))]) (fun i => [cel b3 (clB (btsI x.n i)) 185, cel b1 x.l 24, F]) (fun i => 32 - i) 0 (Nat.zero_le _) ⟨rfl, rfl, rfl, trivial⟩ (Ent.refl _) ?_
 intro i hi
 by_cases h : i < 32
 ·have hb := byt_at hx h
  refine XR ?_
  refine Xi ?_
  refine Xe ?_
  refine Lq ((Q_sub rfl rfl (IntWalk.i64_in _ (by omega))).as (v' := .int .i64 ((31 - i : Nat) : Int)) (congrArg (Value.int .i64) (by omega))) ?_
  refine Xd ?_
  refine Lq ((Q_quo rfl rfl (by decide) (IntWalk.i64_quo _ _ (by omega))).as (v' := .int .i64 ((i / 8 : Nat) : Int)) (congrArg (Value.int .i64) (by omega))) ?_
  refine Lq (Q_ia (o' := i / 8) (i / 8) rfl rfl rfl (by omega) (by omega)) ?_
  refine Lq (Q_ld 1 rfl rfl rfl (W4.at_l x _ (by omega))) ?_
  refine Xd ?_
  refine Lq ((Q_rem rfl rfl (by decide) (IntWalk.rem_in _ _ (by omega))).as (v' := .int .i64 ((i % 8 : Nat) : Int)) (congrArg (Value.int .i64) (by omega))) ?_
  refine Lq ((Q_mul rfl rfl (IntWalk.i64_in _ (by omega))).as (v' := .int .i64 ((8 * (i % 8) : Nat) : Int)) (congrArg (Value.int .i64) (by omega))) ?_
  refine Lq (Q_shrN (x.at (i / 8)) (8 * (i % 8)) rfl rfl rfl rfl (by show _ ≤ 64; omega)) ?_
  refine Lq ((Q_cvtN (x.at (i / 8) / 2 ^ (8 * (i % 8))) rfl rfl).as (v' := .int .u8 ((byt x.n i).toNat : Int)) (congrArg (fun n : Nat => Value.int .u8 (n : Int)) hb)) ?_
  refine Lq (Q_ia (o' := 31 - i) (31 - i) rfl rfl rfl (by omega) (by omega)) ?_
  refine L_s rfl rfl (O_stS 0 rfl rfl rfl rfl rfl (by rw [clB_len, btsI_len]; omega) ?_)
  refine Xas ?_
  rw [clB_set, btsI_set x.n i h]
  refine Xh ?_
  exact XeJ
 ·obtain rfl : i = 32 := by omega
  refine Xae ?_
  refine J_seq ?_
  rw [btsI_32]
  refine Xh ?_
  refine Lq (Q_slA 0 32 0 rfl rfl rfl (by decide) (by decide) rfl) ?_
  refine Lq (Q_b2s (β := tB) (S := ⟨some ⟨b3, 0, none⟩, 32, 32⟩) (m := bts x.n) tB_enc (fun w hs => by have := hs.rdC (τ := tB) (m := bts x.n) (c := 32) (o := 0) 0 [] rfl (by rw [clB_flat, List.append_nil]; rfl) (Nat.le_of_eq (bts_len _)); rw [bts_len] at this; exact this) rfl) ?_
  refine Xq ?_
  exact retQ_ret _ [] (.cons (RV_tmp rfl) .nil) ⟨rfl, rfl⟩ (Ent.re [2] rfl)
end Go.Proofs
/- The number of 32 bytes. -/
set_option autoImplicit false
namespace Go.Proofs
open Go.SL
theorem l4 {a b c d a' b' c' d' : Nat} (h1 : a = a') (h2 : b = b') (h3 : c = c') (h4 : d = d') : [u64 a, u64 b, u64 c, u64 d] = [u64 a', u64 b', u64 c', u64 d'] := by rw [h1, h2, h3, h4]
theorem or_hi {x b k K : Nat} (hK : 2 ^ k = K) (hx : x < K) (h64 : b * K < 18446744073709551616) : x ||| b * K % 18446744073709551616 = x + b * K := by
 subst hK
 rw [Nat.mod_eq_of_lt h64, Nat.or_comm, Nat.mul_comm, ← Nat.two_pow_add_eq_or_of_lt hx, Nat.add_comm]
theorem of_set {P b j e K : Nat} (hj : j < 4) (he : e < 8) (hK : 2 ^ (8 * e) = K) (hP : P < 2 ^ (64 * j) * K) (hb : b < 256) :
 (W4.of P).at j < K ∧ b * K < 18446744073709551616 ∧ (W4.of P).l.set j (u64 ((W4.of P).at j ||| b * K % 18446744073709551616)) = (W4.of (P + b * (2 ^ (64 * j) * K))).l := by
 have hK0 : 0 < K := by rw [← hK]; exact Nat.two_pow_pos _
 have hK1 : 256 * K ≤ 18446744073709551616 := by
  rw [← hK, show (18446744073709551616 : Nat) = 2 ^ 64 from rfl, show (256 : Nat) = 2 ^ 8 from rfl, ← Nat.pow_add]
  exact Nat.pow_le_pow_right (by decide) (by omega)
 have hB : b * K + K ≤ 18446744073709551616 := by
  have := Nat.mul_le_mul_right K (show b + 1 ≤ 256 by omega)
  rw [Nat.add_mul, Nat.one_mul] at this
  omega
 have h1 : (W4.of P).at j < K := by
  have hc : j = 0 ∨ j = 1 ∨ j = 2 ∨ j = 3 := by omega
  rcases hc with rfl | rfl | rfl | rfl
  ·have : P < 1 * K := hP
   show P % 18446744073709551616 < K; omega
  ·have : P < 18446744073709551616 * K := hP
   show P / 18446744073709551616 % 18446744073709551616 < K; omega
  ·have : P < 340282366920938463463374607431768211456 * K := hP
   show P / 340282366920938463463374607431768211456 % 18446744073709551616 < K; omega
  ·have : P < 6277101735386680763835789423207666416102355444464034512896 * K := hP
   show P / 6277101735386680763835789423207666416102355444464034512896 % 18446744073709551616 < K; omega
 have h2 : b * K < 18446744073709551616 := by omega
 refine ⟨h1, h2, ?_⟩
 rw [or_hi hK h1 h2]
 have hc : j = 0 ∨ j = 1 ∨ j = 2 ∨ j = 3 := by omega
 have em : b * (2 ^ (64 * j) * K) = 2 ^ (64 * j) * (b * K) := by simp only [Nat.mul_comm, Nat.mul_assoc]
 rw [em]
 generalize b * K = B at *
 rcases hc with rfl | rfl | rfl | rfl
 ·have hP : P < 1 * K := hP
  rw [show 2 ^ (64 * 0) * B = 1 * B from rfl]
  exact l4 (by simp only [W4.of, W4.at]; omega) (by simp only [W4.of]; omega) (by simp only [W4.of]; omega) (by simp only [W4.of]; omega)
 ·have hP : P < 18446744073709551616 * K := hP
  rw [show 2 ^ (64 * 1) * B = 18446744073709551616 * B from rfl]
  exact l4 (by simp only [W4.of]; omega) (by simp only [W4.of, W4.at]; omega) (by simp only [W4.of]; omega) (by simp only [W4.of]; omega)
 ·have hP : P < 340282366920938463463374607431768211456 * K := hP
  rw [show 2 ^ (64 * 2) * B = 340282366920938463463374607431768211456 * B from rfl]
  exact l4 (by simp only [W4.of]; omega) (by simp only [W4.of]; omega) (by simp only [W4.of, W4.at]; omega) (by simp only [W4.of]; omega)
 ·have hP : P < 6277101735386680763835789423207666416102355444464034512896 * K := hP
  rw [show 2 ^ (64 * 3) * B = 6277101735386680763835789423207666416102355444464034512896 * B from rfl]
  exact l4 (by simp only [W4.of]; omega) (by simp only [W4.of]; omega) (by simp only [W4.of]; omega) (by simp only [W4.of, W4.at]; omega)
theorem quad {s : List UInt8} {i : Nat} (hs : s.length = 32) (hi : i < 32) : numB (s.drop (32 - (i + 1))) = numB (s.drop (32 - i)) + (s[31 - i]'(by omega)).toNat * 256 ^ i := by
 have e1 : 32 - (i + 1) = 31 - i := by omega
 have e2 : 31 - i + 1 = 32 - i := by omega
 have e3 : (s.drop (32 - i)).length = i := by rw [List.length_drop]; omega
 rw [e1, List.drop_eq_getElem_cons (by omega), numB_cons, e2, e3, Nat.add_comm]
attribute [local irreducible] J JL QOp JOp seqQ blockQ loopQ retQ slc cel hex star pur stars Does RV Ent pAt scopeQ
theorem lfrom_ok (E : World) (s : List UInt8) (hs : s.length = 32) : Does Tryz.prog E 142 [str s] [] fun r L => r = .tuple #[(W4.of (numB s)).v, .int .i64 0] ∧ L = [] := by
 refine Does.of Tryz.func142 rfl Tryz.ntmps142 rfl rfl fun F => ?_
 refine Xb ?_
 refine L_o rfl rfl rfl (O_alloc fun b2 => ?_)
 refine XC ?_
 refine L_o rfl rfl rfl (O_alloc fun b4 => ?_)
 refine Xt ?_
 refine Xg ?_
 refine XN ?_
 refine Lq ((Q_neq rfl rfl).as (v' := .bool false) (congrArg Value.bool (decide_eq_false ((by rw [hs]; decide))))) ?_
 refine Xy ?_
 refine Xw ?_
 refine XP ?_
 refine J_loop (fun i : Nat => i ≤ 32) (fun i => [(0, str s), (2, .pointer (some ⟨b2, 0, none⟩)), (4, .pointer (some ⟨b4, 0, none⟩)), (10, .int .i64 (i : Int))]) (fun i => [cel b4 (W4.of (numB (s.drop (32 - i)))).l 24, cel b2 [u64 0, u64 0, u64 0, u64 0] 24, F]) (fun i => 32 - i) 0 (Nat.zero_le _) ⟨rfl, rfl, rfl, rfl, trivial⟩ (by rw [show numB (s.drop (32 - 0)) = 0 by rw [List.drop_of_length_le (by omega)]; rfl, of_0]; exact Ent.refl _) ?_
 intro i hi
 by_cases h : i < 32
 ·have hP := numB_lt (s.drop (32 - i))
  rw [List.length_drop, hs, show 32 - (32 - i) = i by omega] at hP
  have e : (256 : Nat) ^ i = 2 ^ (64 * (i / 8)) * 2 ^ (8 * (i % 8)) := by
   rw [← Nat.pow_add, show (256 : Nat) = 2 ^ 8 from rfl, ← Nat.pow_mul]
   congr 1; omega
  have hq := quad hs h
  have hb := (s[31 - i]'(by omega)).toNat_lt
  rw [e] at hP hq
  obtain ⟨o1, o2, o3⟩ := of_set (j := i / 8) (e := i % 8) (by omega) (by omega) rfl hP hb
  rw [← hq] at o3
  have hok : (W4.of (numB (s.drop (32 - i)))).ok := W4.of_ok _
  generalize W4.of (numB (s.drop (32 - i))) = X at *
  refine XR ?_
  refine Xi ?_
  refine DH [0] [0,1,2,3,4,5,6,7,8,9,10,11,12,13,14] (.quiet 0 (.quiet 1 (.quiet 2 (.quiet 3 (.quiet 4 (.quiet 5 (.quiet 6 (.quiet 7 (.quiet 8 (.quiet 9 (.quiet 10 (.quiet 11 (.quiet 12 (.quiet 13 (.quiet 14 (.loud 15 .done)))))))))))))))) Tryz.mixed ?_
  refine XU ?_
  refine Sq (Ent.re [0] rfl) rfl ((Q_quo rfl rfl (by decide) (IntWalk.i64_quo _ _ (by omega))).as (v' := .int .i64 ((i / 8 : Nat) : Int)) (congrArg (Value.int .i64) (by omega))) ?_
  refine Sq (Ent.re [0] rfl) rfl (Q_ia (o' := i / 8) (i / 8) rfl rfl rfl (by omega) (by omega)) ?_
  refine Sq (Ent.re [0] rfl) rfl (Q_ld 0 rfl rfl rfl (W4.at_l X _ (by omega))) ?_
  refine XaG ?_
  refine Sq (Ent.re [0] rfl) rfl ((Q_sub rfl rfl (IntWalk.i64_in _ (by omega))).as (v' := .int .i64 ((31 - i : Nat) : Int)) (congrArg (Value.int .i64) (by omega))) ?_
  refine Sq (Ent.re [0] rfl) rfl (Q_sindex (31 - i) rfl rfl rfl (by omega)) ?_
  refine Sq (Ent.re [0] rfl) rfl (Q_cvt rfl (IntWalk.u64_in _ (by omega))) ?_
  refine XU ?_
  refine Sq (Ent.re [0] rfl) rfl ((Q_rem rfl rfl (by decide) (IntWalk.rem_in _ _ (by omega))).as (v' := .int .i64 ((i % 8 : Nat) : Int)) (congrArg (Value.int .i64) (by omega))) ?_
  refine Sq (Ent.re [0] rfl) rfl ((Q_mul rfl rfl (IntWalk.i64_in _ (by omega))).as (v' := .int .i64 ((8 * (i % 8) : Nat) : Int)) (congrArg (Value.int .i64) (by omega))) ?_
  refine Sq (Ent.re [0] rfl) rfl (Q_shlN ((s[31 - i]'(by omega)).toNat) (8 * (i % 8)) rfl rfl rfl rfl (by show _ ≤ 64; omega)) ?_
  refine Sq (Ent.re [0] rfl) rfl (Q_orN (X.at (i / 8)) ((s[31 - i]'(by omega)).toNat * 2 ^ (8 * (i % 8)) % 18446744073709551616) rfl rfl rfl rfl (W4.at_lt hok _) (Nat.mod_lt _ (by decide))) ?_
  refine Sq (Ent.re [0] rfl) rfl (Q_ia (o' := i / 8) (i / 8) rfl rfl rfl (by omega) (by omega)) ?_
  refine S_s rfl rfl rfl (O_stS 0 rfl rfl rfl rfl rfl (by show i / 8 < 4; omega) ⟨[], free_no (by kernel_rfl), ?_⟩)
  refine Xaq ?_
  refine XV ?_
  rw [o3]
  refine Xh ?_
  exact Xc9
 ·obtain rfl : i = 32 := by omega
  refine Xae ?_
  refine Xo ?_
  refine Xcx ?_
  refine Xaa ?_
  exact retQ_ret _ [] (.cons (RV_cell 1 rfl rfl rfl rfl) (.cons (RV_tmp rfl) .nil)) ⟨rfl, rfl⟩ (Ent.re [2] rfl)
end Go.Proofs
