/- Part 16 of the texts below the row: Num6, Num7, Num8, Num9, Num10, Num11, Num12. -/
import Derived.Test.YtdggicfcpcjjlaaGreatDoorM1
import Derived.Test.YtdggicfcpcjjlaaGreatDoorM13
import Derived.Test.YtdggicfcpcjjlaaGreatDoorM15
/- A number modulo an odd one: a step of the product. -/
set_option autoImplicit false
namespace Go.Proofs
open Go.SL
structure W6 where
 a : Nat
 b : Nat
 c : Nat
 d : Nat
 e : Nat
 f : Nat
abbrev W6.l (x : W6) : List Value := [u64 x.a, u64 x.b, u64 x.c, u64 x.d, u64 x.e, u64 x.f]
abbrev W6.v (x : W6) : Value := .agg x.l.toArray
structure W6.ok (x : W6) : Prop where
 a : x.a < 18446744073709551616
 b : x.b < 18446744073709551616
 c : x.c < 18446744073709551616
 d : x.d < 18446744073709551616
 e : x.e < 18446744073709551616
 f : x.f < 18446744073709551616
abbrev stS (p t c : Nat) : Nat := ((p % 18446744073709551616 + t + 0) % 18446744073709551616 + c + 0) % 18446744073709551616
abbrev stC (p t c : Nat) : Nat := p / 18446744073709551616 + (p % 18446744073709551616 + t + 0) / 18446744073709551616 + ((p % 18446744073709551616 + t + 0) % 18446744073709551616 + c + 0) / 18446744073709551616
theorem stC_lt {p t c : Nat} (hp : p ≤ 18446744073709551615 * 18446744073709551615) (ht : t < 18446744073709551616) (hc : c < 18446744073709551616) :
 p / 18446744073709551616 + (p % 18446744073709551616 + t + 0) / 18446744073709551616 < 18446744073709551616 ∧ stC p t c < 18446744073709551616 := by
 unfold stC; omega
theorem st_eq (p t c : Nat) : stS p t c + 18446744073709551616 * stC p t c = p + t + c := by unfold stS stC; omega
def stpC (x : Nat) (t : W6) (y : W4) : Nat → Nat
 | 0 => 0
 | 1 => stC (x * y.a) t.a 0
 | 2 => stC (x * y.b) t.b (stC (x * y.a) t.a 0)
 | 3 => stC (x * y.c) t.c (stC (x * y.b) t.b (stC (x * y.a) t.a 0))
 | _ => stC (x * y.d) t.d (stC (x * y.c) t.c (stC (x * y.b) t.b (stC (x * y.a) t.a 0)))
def stpT (x : Nat) (t : W6) (y : W4) : Nat → W6
 | 0 => t
 | 1 => ⟨stS (x * y.a) t.a 0, t.b, t.c, t.d, t.e, t.f⟩
 | 2 => ⟨stS (x * y.a) t.a 0, stS (x * y.b) t.b (stpC x t y 1), t.c, t.d, t.e, t.f⟩
 | 3 => ⟨stS (x * y.a) t.a 0, stS (x * y.b) t.b (stpC x t y 1), stS (x * y.c) t.c (stpC x t y 2), t.d, t.e, t.f⟩
 | _ => ⟨stS (x * y.a) t.a 0, stS (x * y.b) t.b (stpC x t y 1), stS (x * y.c) t.c (stpC x t y 2), stS (x * y.d) t.d (stpC x t y 3), t.e, t.f⟩
def stpW (x : Nat) (t : W6) (y : W4) : W6 := ⟨stS (x * y.a) t.a 0, stS (x * y.b) t.b (stpC x t y 1), stS (x * y.c) t.c (stpC x t y 2), stS (x * y.d) t.d (stpC x t y 3), (t.e + stpC x t y 4 + 0) % 18446744073709551616, (t.f + (t.e + stpC x t y 4 + 0) / 18446744073709551616) % 18446744073709551616⟩
attribute [local irreducible] J JL QOp JOp seqQ blockQ loopQ retQ slc cel hex star pur stars Does RV Ent pAt scopeQ
theorem mstep_ok (E : World) (t : W6) (x : Nat) (y : W4) (ht : t.ok) (hx : x < 18446744073709551616) (hy : y.ok) : Does Tryz.prog E 187 [t.v, u64 x, y.v] [] fun r L => r = (stpW x t y).v ∧ L = [] := by
 obtain ⟨a, b, c, d, e, f⟩ := t
 obtain ⟨a', b', c', d'⟩ := y
 have ht0 : a < 18446744073709551616 := ht.a
 have ht1 : b < 18446744073709551616 := ht.b
 have ht2 : c < 18446744073709551616 := ht.c
 have ht3 : d < 18446744073709551616 := ht.d
 have bd : ∀ z, z < 18446744073709551616 → x * z ≤ 18446744073709551615 * 18446744073709551615 := fun z hz => Nat.mul_le_mul (by omega) (by omega)
 have g0 : stpC x ⟨a, b, c, d, e, f⟩ ⟨a', b', c', d'⟩ 0 < 18446744073709551616 := show 0 < 18446744073709551616 by decide
 have g1 : stpC x ⟨a, b, c, d, e, f⟩ ⟨a', b', c', d'⟩ 1 < 18446744073709551616 := (stC_lt (bd _ hy.a) ht0 g0).2
 have g2 : stpC x ⟨a, b, c, d, e, f⟩ ⟨a', b', c', d'⟩ 2 < 18446744073709551616 := (stC_lt (bd _ hy.b) ht1 g1).2
 have g3 : stpC x ⟨a, b, c, d, e, f⟩ ⟨a', b', c', d'⟩ 3 < 18446744073709551616 := (stC_lt (bd _ hy.c) ht2 g2).2
 refine Does.of Tryz.func187 rfl Tryz.ntmps187 rfl rfl fun F => ?_
 refine Xb ?_
 refine L_o rfl rfl rfl (O_box rfl fun b3 => ?_)
 refine L_o rfl rfl rfl (O_box rfl fun b5 => ?_)
 refine L_o rfl rfl rfl (O_alloc fun b6 => ?_)
 refine Xby ?_
 refine Xn ?_
 refine XM ?_
 refine XJ ?_
 refine J_loop (fun i : Nat => i ≤ 4) (fun i => [(1, u64 x), (3, .pointer (some ⟨b3, 0, none⟩)), (6, .pointer (some ⟨b6, 0, none⟩)), (7, u64 (stpC x ⟨a, b, c, d, e, f⟩ ⟨a', b', c', d'⟩ i)), (15, W4.v ⟨a', b', c', d'⟩), (16, .int .i64 (i : Int))]) (fun i => [cel b6 [u64 0, u64 0, u64 0, u64 0, u64 0, u64 0] 272, cel b3 (stpT x ⟨a, b, c, d, e, f⟩ ⟨a', b', c', d'⟩ i).l 272, F]) (fun i => 4 - i) 0 (Nat.zero_le _) ⟨rfl, rfl, rfl, rfl, rfl, rfl, trivial⟩ (Ent.re [0,2,3] rfl) ?_
 intro i hi
 match i, hi with
 | 0, _ =>
  have hp : x * a' ≤ 18446744073709551615 * 18446744073709551615 := Nat.mul_le_mul (by have := hx; omega) (by have := hy.a; dsimp only at this; omega)
  have hm := mul64_ok E x a' hx hy.a
  have hc := g0
  have ht := ht0
  have hb := stC_lt hp ht hc
  refine Xal ?_
  refine Lq (Q_aiS (v' := u64 a') 0 rfl rfl rfl (by decide) rfl rfl) ?_
  refine Xd9 ?_
  rintro _ _ ⟨rfl, rfl⟩
  refine Xa3 ?_
  refine Xs ?_
  refine Sr ?_
  refine Xab ?_
  refine XbL ?_
  refine XE ?_
  refine L_o rfl rfl rfl (O_add64 (x * a' % 18446744073709551616) a 0 addFn rfl rfl rfl (by decide) ?_)
  refine Xa3 ?_
  refine Xab ?_
  refine L_o rfl rfl rfl (O_add64 ((x * a' % 18446744073709551616 + a + 0) % 18446744073709551616) (stpC x ⟨a, b, c, d, e, f⟩ ⟨a', b', c', d'⟩ 0) 0 addFn rfl rfl rfl (by decide) ?_)
  refine Xa3 ?_
  refine Xs ?_
  refine Xl ?_
  refine Xf ?_
  refine Xec ?_
  refine Lq (Q_add6 _ _ rfl rfl hb.2) ?_
  refine XbL ?_
  refine Xdr ?_
  refine Xj ?_
  exact XeC
 | 1, _ =>
  have hp : x * b' ≤ 18446744073709551615 * 18446744073709551615 := Nat.mul_le_mul (by have := hx; omega) (by have := hy.b; dsimp only at this; omega)
  have hm := mul64_ok E x b' hx hy.b
  have hc := g1
  have ht := ht1
  have hb := stC_lt hp ht hc
  refine Xal ?_
  refine Lq (Q_aiS (v' := u64 b') 1 rfl rfl rfl (by decide) rfl rfl) ?_
  refine Xd9 ?_
  rintro _ _ ⟨rfl, rfl⟩
  refine Xa3 ?_
  refine Xs ?_
  refine Sr ?_
  refine Xab ?_
  refine XcS ?_
  refine XE ?_
  refine L_o rfl rfl rfl (O_add64 (x * b' % 18446744073709551616) b 0 addFn rfl rfl rfl (by decide) ?_)
  refine Xa3 ?_
  refine Xab ?_
  refine L_o rfl rfl rfl (O_add64 ((x * b' % 18446744073709551616 + b + 0) % 18446744073709551616) (stpC x ⟨a, b, c, d, e, f⟩ ⟨a', b', c', d'⟩ 1) 0 addFn rfl rfl rfl (by decide) ?_)
  refine Xa3 ?_
  refine Xs ?_
  refine Xl ?_
  refine Xf ?_
  refine Xec ?_
  refine Lq (Q_add6 _ _ rfl rfl hb.2) ?_
  refine XcS ?_
  refine Xdr ?_
  refine Xj ?_
  exact XeD
 | 2, _ =>
  have hp : x * c' ≤ 18446744073709551615 * 18446744073709551615 := Nat.mul_le_mul (by have := hx; omega) (by have := hy.c; dsimp only at this; omega)
  have hm := mul64_ok E x c' hx hy.c
  have hc := g2
  have ht := ht2
  have hb := stC_lt hp ht hc
  refine Xal ?_
  refine Lq (Q_aiS (v' := u64 c') 2 rfl rfl rfl (by decide) rfl rfl) ?_
  refine Xd9 ?_
  rintro _ _ ⟨rfl, rfl⟩
  refine Xa3 ?_
  refine Xs ?_
  refine Sr ?_
  refine Xab ?_
  refine XcT ?_
  refine XE ?_
  refine L_o rfl rfl rfl (O_add64 (x * c' % 18446744073709551616) c 0 addFn rfl rfl rfl (by decide) ?_)
  refine Xa3 ?_
  refine Xab ?_
  refine L_o rfl rfl rfl (O_add64 ((x * c' % 18446744073709551616 + c + 0) % 18446744073709551616) (stpC x ⟨a, b, c, d, e, f⟩ ⟨a', b', c', d'⟩ 2) 0 addFn rfl rfl rfl (by decide) ?_)
  refine Xa3 ?_
  refine Xs ?_
  refine Xl ?_
  refine Xf ?_
  refine Xec ?_
  refine Lq (Q_add6 _ _ rfl rfl hb.2) ?_
  refine XcT ?_
  refine Xdr ?_
  refine Xj ?_
  exact XeE
 | 3, _ =>
  have hp : x * d' ≤ 18446744073709551615 * 18446744073709551615 := Nat.mul_le_mul (by have := hx; omega) (by have := hy.d; dsimp only at this; omega)
  have hm := mul64_ok E x d' hx hy.d
  have hc := g3
  have ht := ht3
  have hb := stC_lt hp ht hc
  refine Xal ?_
  refine Lq (Q_aiS (v' := u64 d') 3 rfl rfl rfl (by decide) rfl rfl) ?_
  refine Xd9 ?_
  rintro _ _ ⟨rfl, rfl⟩
  refine Xa3 ?_
  refine Xs ?_
  refine Sr ?_
  refine Xab ?_
  refine Xch ?_
  refine XE ?_
  refine L_o rfl rfl rfl (O_add64 (x * d' % 18446744073709551616) d 0 addFn rfl rfl rfl (by decide) ?_)
  refine Xa3 ?_
  refine Xab ?_
  refine L_o rfl rfl rfl (O_add64 ((x * d' % 18446744073709551616 + d + 0) % 18446744073709551616) (stpC x ⟨a, b, c, d, e, f⟩ ⟨a', b', c', d'⟩ 3) 0 addFn rfl rfl rfl (by decide) ?_)
  refine Xa3 ?_
  refine Xs ?_
  refine Xl ?_
  refine Xf ?_
  refine Xec ?_
  refine Lq (Q_add6 _ _ rfl rfl hb.2) ?_
  refine Xch ?_
  refine Xdr ?_
  refine Xj ?_
  exact XeF
 | 4, _ =>
  refine Xbk ?_
  refine Xd6 ?_
  refine XE ?_
  refine Xd ?_
  refine L_o rfl rfl rfl (O_add64 e (stpC x ⟨a, b, c, d, e, f⟩ ⟨a', b', c', d'⟩ 4) 0 addFn rfl rfl rfl (by decide) ?_)
  refine Xa3 ?_
  refine Lq (Q_ia (o' := 4) 4 rfl rfl rfl (by decide) rfl) ?_
  refine Xdr ?_
  refine XC ?_
  refine Lq (Q_ia (o' := 5) 5 rfl rfl rfl (by decide) rfl) ?_
  refine XE ?_
  refine Xd ?_
  refine Lq ((Q_addN f ((e + (stpC x ⟨a, b, c, d, e, f⟩ ⟨a', b', c', d'⟩ 4) + 0) / 18446744073709551616) rfl rfl rfl rfl).as (v' := u64 ((f + (e + (stpC x ⟨a, b, c, d, e, f⟩ ⟨a', b', c', d'⟩ 4) + 0) / 18446744073709551616) % 18446744073709551616)) rfl) ?_
  refine Lq (Q_ia (o' := 5) 5 rfl rfl rfl (by decide) rfl) ?_
  refine L_s rfl rfl (O_st1 1 rfl rfl rfl rfl rfl ?_)
  refine Xr ?_
  refine XM ?_
  refine XG ?_
  exact XcJ
end Go.Proofs
/- A step of the product, as natural numbers. -/
set_option autoImplicit false
namespace Go.Proofs
open Go.SL
def W6.n (x : W6) : Nat := x.a + 18446744073709551616 * x.b + 340282366920938463463374607431768211456 * x.c + 6277101735386680763835789423207666416102355444464034512896 * x.d + 115792089237316195423570985008687907853269984665640564039457584007913129639936 * x.e + 2135987035920910082395021706169552114602704522356652769947041607822219725780640550022962086936576 * x.f
theorem W4.mul_n (x : Nat) (y : W4) : x * y.n = x * y.a + 18446744073709551616 * (x * y.b) + 340282366920938463463374607431768211456 * (x * y.c) + 6277101735386680763835789423207666416102355444464034512896 * (x * y.d) := by
 unfold W4.n
 rw [Nat.mul_add, Nat.mul_add, Nat.mul_add, Nat.mul_left_comm x 18446744073709551616, Nat.mul_left_comm x 340282366920938463463374607431768211456, Nat.mul_left_comm x 6277101735386680763835789423207666416102355444464034512896]
theorem stpW_ok (x : Nat) (t : W6) (y : W4) : (stpW x t y).ok := by
 unfold stpW; constructor <;> dsimp only <;> exact Nat.mod_lt _ (by decide)
theorem stpW_n {x : Nat} {t : W6} {y : W4} (ht : t.ok) (hl : t.n + x * y.n < 39402006196394479212279040100143613805079739270465446667948293404245721771497210611414266254884915640806627990306816) : (stpW x t y).n = t.n + x * y.n := by
 have h1 := ht.a; have h2 := ht.b; have h3 := ht.c; have h4 := ht.d; have h5 := ht.e; have h6 := ht.f
 rw [W4.mul_n] at hl ⊢
 obtain ⟨a, b, c, d, e, f⟩ := t
 simp only [stpW, stpC, W6.n] at *
 have e1 := st_eq (x * y.a) a 0
 have e2 := st_eq (x * y.b) b (stC (x * y.a) a 0)
 have e3 := st_eq (x * y.c) c (stC (x * y.b) b (stC (x * y.a) a 0))
 have e4 := st_eq (x * y.d) d (stC (x * y.c) c (stC (x * y.b) b (stC (x * y.a) a 0)))
 generalize stS (x * y.a) a 0 = s0 at *
 generalize stC (x * y.a) a 0 = c1 at *
 generalize stS (x * y.b) b c1 = s1 at *
 generalize stC (x * y.b) b c1 = c2 at *
 generalize stS (x * y.c) c c2 = s2 at *
 generalize stC (x * y.c) c c2 = c3 at *
 generalize stS (x * y.d) d c3 = s3 at *
 generalize stC (x * y.d) d c3 = c4 at *
 generalize x * y.a = pa at *
 generalize x * y.b = pb at *
 generalize x * y.c = pc at *
 generalize x * y.d = pd at *
 omega
end Go.Proofs
/- Numbers of four words: halves. -/
set_option autoImplicit false
namespace Go.Proofs
open Go.SL
def hf (x nx : Nat) : Nat := x / 2 + nx % 2 * 9223372036854775808
theorem or_hf {x nx : Nat} (h : x < 18446744073709551616) : x / 2 ||| nx * 9223372036854775808 % 18446744073709551616 = hf x nx := by
 have e : nx * 9223372036854775808 % 18446744073709551616 = 2 ^ 63 * (nx % 2) := by omega
 rw [e, Nat.or_comm, ← Nat.two_pow_add_eq_or_of_lt (i := 63) (by omega : x / 2 < 2 ^ 63)]
 unfold hf; omega
def topN (top : Bool) : Nat := if top then 1 else 0
def halfW (x : W4) (top : Bool) : Nat → W4
 | 0 => x
 | 1 => ⟨hf x.a x.b, x.b, x.c, x.d⟩
 | 2 => ⟨hf x.a x.b, hf x.b x.c, x.c, x.d⟩
 | 3 => ⟨hf x.a x.b, hf x.b x.c, hf x.c x.d, x.d⟩
 | _ => ⟨hf x.a x.b, hf x.b x.c, hf x.c x.d, hf x.d (topN top)⟩
theorem halfW_ok {x : W4} (hx : x.ok) (top : Bool) : (halfW x top 4).ok := by
 have h1 := hx.a; have h2 := hx.b; have h3 := hx.c; have h4 := hx.d
 unfold halfW; constructor <;> simp only [hf] <;> omega
theorem halfW_n {x : W4} (_ : x.ok) (top : Bool) : (halfW x top 4).n = x.n / 2 + topN top * 57896044618658097711785492504343953926634992332820282019728792003956564819968 := by
 have : topN top ≤ 1 := by unfold topN; split <;> decide
 obtain ⟨a, b, c, d⟩ := x
 simp only [halfW, W4.n, hf]
 omega
attribute [local irreducible] J JL QOp JOp seqQ blockQ loopQ retQ slc cel hex star pur stars Does RV Ent pAt scopeQ
theorem lhalf_ok (E : World) (x : W4) (top : Bool) (hx : x.ok) : Does Tryz.prog E 172 [x.v, .bool top] [] fun r L => r = (halfW x top 4).v ∧ L = [] := by
 obtain ⟨a, b, c, d⟩ := x
 have ha : a < 18446744073709551616 := hx.a
 have hb : b < 18446744073709551616 := hx.b
 have hc : c < 18446744073709551616 := hx.c
 have hd : d < 18446744073709551616 := hx.d
 refine Does.of Tryz.func172 rfl Tryz.ntmps172 rfl rfl fun F => ?_
 refine Xb ?_
 refine L_o rfl rfl rfl (O_box rfl fun b2 => ?_)
 refine L_o rfl rfl rfl (O_alloc fun b4 => ?_)
 refine Xt ?_
 refine Xg ?_
 refine XP ?_
 refine J_loop (fun i : Nat => i ≤ 4) (fun i => [(1, .bool top), (2, .pointer (some ⟨b2, 0, none⟩)), (4, .pointer (some ⟨b4, 0, none⟩)), (7, .int .i64 (i : Int))]) (fun i => [cel b4 [u64 0, u64 0, u64 0, u64 0] 24, cel b2 (halfW ⟨a, b, c, d⟩ top i).l 24, F]) (fun i => 4 - i) 0 (Nat.zero_le _) ⟨rfl, rfl, rfl, rfl, trivial⟩ (Ent.refl _) ?_
 intro i hi
 match i, hi with
 | 0, _ =>
  refine Xal ?_
  refine XC ?_
  refine XA ?_
  refine XbV ?_
  refine Xm ?_
  refine XbZ ?_
  refine XcS ?_
  refine XE ?_
  refine Xbl ?_
  refine XbL ?_
  refine XE ?_
  refine Lq (Q_shr6 a 1 2 rfl rfl (by decide) rfl) ?_
  refine Xd ?_
  refine Lq ((Q_shlN b 63 rfl rfl rfl rfl (by decide)).as (v' := u64 (b * 9223372036854775808 % 18446744073709551616)) rfl) ?_
  refine Lq ((Q_orN (a / 2) (b * 9223372036854775808 % 18446744073709551616) rfl rfl rfl rfl (by have := ha; show _ < 18446744073709551616; omega) (Nat.mod_lt _ (by decide))).as (v' := u64 (hf a b)) (congrArg u64 (or_hf ha))) ?_
  refine XbL ?_
  refine Xcb ?_
  refine Xa0 ?_
  exact loopQ_normal 1 (by decide) (by decide) ⟨rfl, rfl, rfl, rfl, trivial⟩ (Ent.refl _)
 | 1, _ =>
  refine Xal ?_
  refine XC ?_
  refine XA ?_
  refine XbV ?_
  refine Xm ?_
  refine XbZ ?_
  refine XcT ?_
  refine XE ?_
  refine Xbl ?_
  refine XcS ?_
  refine XE ?_
  refine Lq (Q_shr6 b 1 2 rfl rfl (by decide) rfl) ?_
  refine Xd ?_
  refine Lq ((Q_shlN c 63 rfl rfl rfl rfl (by decide)).as (v' := u64 (c * 9223372036854775808 % 18446744073709551616)) rfl) ?_
  refine Lq ((Q_orN (b / 2) (c * 9223372036854775808 % 18446744073709551616) rfl rfl rfl rfl (by have := hb; show _ < 18446744073709551616; omega) (Nat.mod_lt _ (by decide))).as (v' := u64 (hf b c)) (congrArg u64 (or_hf hb))) ?_
  refine XcS ?_
  refine Xcb ?_
  refine Xa0 ?_
  exact loopQ_normal 2 (by decide) (by decide) ⟨rfl, rfl, rfl, rfl, trivial⟩ (Ent.refl _)
 | 2, _ =>
  refine Xal ?_
  refine XC ?_
  refine XA ?_
  refine XbV ?_
  refine Xm ?_
  refine XbZ ?_
  refine Xch ?_
  refine XE ?_
  refine Xbl ?_
  refine XcT ?_
  refine XE ?_
  refine Lq (Q_shr6 c 1 2 rfl rfl (by decide) rfl) ?_
  refine Xd ?_
  refine Lq ((Q_shlN d 63 rfl rfl rfl rfl (by decide)).as (v' := u64 (d * 9223372036854775808 % 18446744073709551616)) rfl) ?_
  refine Lq ((Q_orN (c / 2) (d * 9223372036854775808 % 18446744073709551616) rfl rfl rfl rfl (by have := hc; show _ < 18446744073709551616; omega) (Nat.mod_lt _ (by decide))).as (v' := u64 (hf c d)) (congrArg u64 (or_hf hc))) ?_
  refine XcT ?_
  refine Xcb ?_
  refine Xa0 ?_
  exact loopQ_normal 3 (by decide) (by decide) ⟨rfl, rfl, rfl, rfl, trivial⟩ (Ent.refl _)
 | 3, _ =>
  refine Xal ?_
  refine XC ?_
  refine XA ?_
  refine Xat ?_
  refine X2 ?_
  refine J_seq ?_
  cases top with
  | true =>
   refine Xe ?_
   refine Xm ?_
   refine Xh ?_
   refine Xbl ?_
   refine Xch ?_
   refine XE ?_
   refine Lq (Q_shr6 d 1 2 rfl rfl (by decide) rfl) ?_
   refine Xd ?_
   refine Lq ((Q_shlN 1 63 rfl rfl rfl rfl (by decide)).as (v' := u64 (1 * 9223372036854775808 % 18446744073709551616)) rfl) ?_
   refine Lq ((Q_orN (d / 2) (1 * 9223372036854775808 % 18446744073709551616) rfl rfl rfl rfl (by have := hd; show _ < 18446744073709551616; omega) (Nat.mod_lt _ (by decide))).as (v' := u64 (hf d 1)) (congrArg u64 (or_hf hd))) ?_
   refine Xch ?_
   refine Xcb ?_
   exact XfF
  | false =>
   refine Xe ?_
   refine Xy ?_
   refine Xl ?_
   refine Xch ?_
   refine XE ?_
   refine Lq (Q_shr6 d 1 2 rfl rfl (by decide) rfl) ?_
   refine Xd ?_
   refine Lq ((Q_shlN 0 63 rfl rfl rfl rfl (by decide)).as (v' := u64 (0 * 9223372036854775808 % 18446744073709551616)) rfl) ?_
   refine Lq ((Q_orN (d / 2) (0 * 9223372036854775808 % 18446744073709551616) rfl rfl rfl rfl (by have := hd; show _ < 18446744073709551616; omega) (Nat.mod_lt _ (by decide))).as (v' := u64 (hf d 0)) (congrArg u64 (or_hf hd))) ?_
   refine Xch ?_
   refine Xcb ?_
   exact XfF
 | 4, _ =>
  refine Xbb ?_
  refine XM ?_
  refine XG ?_
  exact XcJ
end Go.Proofs
/- Modulo an odd number: halves. -/
set_option autoImplicit false
namespace Go.Proofs
open Go.SL
attribute [local irreducible] J JL QOp JOp seqQ blockQ loopQ retQ slc cel hex star pur stars Does RV Ent pAt scopeQ
theorem mhalved_ok (E : World) (m rr x : W4) (N : Nat) (hm : m.ok) (hx : x.ok) : Does Tryz.prog E 173 [modV m N rr, x.v] [] fun r L => r = (W4.of (if x.n % 2 = 0 then x.n / 2 else (x.n + m.n) / 2)).v ∧ L = [] := by
 have e2 : x.n % 2 = x.a % 2 := by unfold W4.n; omega
 by_cases h : x.a % 2 = 0
 ·have hh := lhalf_ok E x false hx
  have hr : halfW x false 4 = W4.of (if x.n % 2 = 0 then x.n / 2 else (x.n + m.n) / 2) := of_eq (halfW_ok hx false) (by rw [if_pos (by omega), halfW_n hx false]; rfl)
  rw [← hr]
  generalize halfW x false 4 = d at *
  refine Does.of Tryz.func173 rfl Tryz.ntmps173 rfl rfl fun F => ?_
  refine Xb ?_
  refine L_o rfl rfl rfl (O_box rfl fun b2 => ?_)
  refine L_o rfl rfl rfl (O_box rfl fun b3 => ?_)
  refine L_o rfl rfl rfl (O_alloc fun b4 => ?_)
  refine Xt ?_
  refine Sr ?_
  refine XfM ?_
  refine XeQ ?_
  refine XM ?_
  refine L_o rfl rfl rfl (O_call [] [0,1,2,3] hh rfl rfl ?_)
  rintro _ _ ⟨rfl, rfl⟩
  refine Xc ?_
  refine Xbh ?_
  exact Xc8
 ·have ha := ladd_ok E x m hx hm
  rw [addC_le hx hm] at ha
  have hh := lhalf_ok E (addW x m) (decide (115792089237316195423570985008687907853269984665640564039457584007913129639936 ≤ x.n + m.n)) (addW_ok x m)
  have e1 := addW_n x m
  have l1 := W4.lt (addW_ok x m)
  have l2 := W4.lt hx
  have l3 := W4.lt hm
  have hr : halfW (addW x m) (decide (115792089237316195423570985008687907853269984665640564039457584007913129639936 ≤ x.n + m.n)) 4 = W4.of (if x.n % 2 = 0 then x.n / 2 else (x.n + m.n) / 2) := of_eq (halfW_ok (addW_ok x m) _) (by
   rw [if_neg (by omega), halfW_n (addW_ok x m)]
   by_cases q : 115792089237316195423570985008687907853269984665640564039457584007913129639936 ≤ x.n + m.n
   ·rw [decide_eq_true q]; show _ + 1 * _ = _; omega
   ·rw [decide_eq_false q]; show _ + 0 * _ = _; omega)
  rw [← hr]
  generalize halfW (addW x m) (decide (115792089237316195423570985008687907853269984665640564039457584007913129639936 ≤ x.n + m.n)) 4 = d at *
  generalize addW x m = s at *
  generalize decide (115792089237316195423570985008687907853269984665640564039457584007913129639936 ≤ x.n + m.n) = tb at *
  refine Does.of Tryz.func173 rfl Tryz.ntmps173 rfl rfl fun F => ?_
  refine Xb ?_
  refine L_o rfl rfl rfl (O_box rfl fun b2 => ?_)
  refine L_o rfl rfl rfl (O_box rfl fun b3 => ?_)
  refine L_o rfl rfl rfl (O_alloc fun b4 => ?_)
  refine Xt ?_
  refine Sr ?_
  refine XfM ?_
  refine XcB ?_
  refine Xy ?_
  refine XM ?_
  refine XD ?_
  refine XeZ ?_
  rintro _ _ ⟨rfl, rfl⟩
  refine XaO ?_
  refine Lq (Q_extract (v := s.v) rfl rfl) ?_
  refine Lq (Q_extract (v := .bool tb) rfl rfl) ?_
  refine L_o rfl rfl rfl (O_alloc fun b5 => ?_)
  refine Xz ?_
  refine Xi ?_
  refine Xo ?_
  refine Xd ?_
  refine L_o rfl rfl rfl (O_call [] [0,1,2,3,4] hh rfl rfl ?_)
  rintro _ _ ⟨rfl, rfl⟩
  refine Xc ?_
  refine XaH ?_
  exact XdH
end Go.Proofs
/- Numbers of four words: compared. -/
set_option autoImplicit false
namespace Go.SL
section
variable {P : Program} {d t el by_ : Nat} {z : Value}
theorem EqV_arr4 {k : IntKind} (a b c e a' b' c' e' : Int) [u : TyU P t (.array 4 el)] [u' : TyU P el (.int k)] [v : TyI P el 1 z by_] (d : Nat) :
 EqV P t (d + 2) (.agg #[.int k a, .int k b, .int k c, .int k e]) (.agg #[.int k a', .int k b', .int k c', .int k e']) (decide (a = a' ∧ b = b' ∧ c = c' ∧ e = e')) := ⟨fun w => by
 obtain ⟨r, hr, hs', _⟩ := v.get
 have q : ∀ (n : Nat) (x y : Int) , (Op.equalIn (d + 1) el (.int k x) (.int k y)).run P w = .ok (x == y) w := fun n x y => run_equalIn_int w d el k k x y u'.h
 rw [Op.equalIn]
 simp only [Sem.run_bind, run_underlying u.h, Result.andThen_ok, sizeOf, typeInfo, run_program, hr, Sem.run_pure, hs']
 simp only [Std.Legacy.Range.forIn_eq_forIn_range', Std.Legacy.Range.size]
 simp [List.range', part, run_isAgg u'.h, isAggD, q 0]
 by_cases h1 : a = a' <;> by_cases h2 : b = b' <;> by_cases h3 : c = c' <;> by_cases h4 : e = e' <;> simp [h1, h2, h3, h4]⟩
end
end Go.SL
namespace Go.Proofs
open Go.SL
theorem eqgN : EqG Tryz.prog 24 := ⟨by kernel_rfl⟩
theorem W4.eq_n {x y : W4} (hx : x.ok) (hy : y.ok) : (decide ((x.a : Int) = y.a ∧ (x.b : Int) = y.b ∧ (x.c : Int) = y.c ∧ (x.d : Int) = y.d)) = decide (x.n = y.n) := by
 refine decide_eq_decide.2 ⟨fun h => ?_, fun h => ?_⟩
 ·obtain ⟨a, b, c, d⟩ := x
  obtain ⟨a', b', c', d'⟩ := y
  simp only [Int.natCast_inj] at h
  obtain ⟨rfl, rfl, rfl, rfl⟩ := h
  rfl
 ·rw [W4.inj hx hy h]; exact ⟨rfl, rfl, rfl, rfl⟩
theorem eqvN {x y : W4} (hx : x.ok) (hy : y.ok) : EqV Tryz.prog 24 10000 (.agg x.l.toArray) (.agg y.l.toArray) (decide (x.n = y.n)) := by
 rw [← W4.eq_n hx hy]
 exact EqV_arr4 _ _ _ _ _ _ _ _ 9998
def cmpN (x y : Nat) : Int := if x = y then 0 else if x < y then -1 else 1
attribute [local irreducible] J JL QOp JOp seqQ blockQ loopQ retQ slc cel hex star pur stars Does RV Ent pAt scopeQ
theorem lcmp_ok (E : World) (x y : W4) (hx : x.ok) (hy : y.ok) : Does Tryz.prog E 174 [x.v, y.v] [] fun r L => r = .int .i64 (cmpN x.n y.n) ∧ L = [] := by
 have hq := eqvN hx hy
 by_cases h : x.n = y.n
 ·rw [decide_eq_true h] at hq
  refine Does.of Tryz.func174 rfl Tryz.ntmps174 rfl rfl fun F => ?_
  refine Xb ?_
  refine L_o rfl rfl rfl (O_box rfl fun b2 => ?_)
  refine L_o rfl rfl rfl (O_box rfl fun b3 => ?_)
  refine Xn ?_
  refine XbT ?_
  refine Lq (Q_geql eqgN hq rfl rfl) ?_
  refine Xm ?_
  refine XbK ?_
  exact retQ_ret _ [] (.cons (RV_tmp rfl) .nil) ⟨by unfold cmpN; rw [if_pos h]; rfl, rfl⟩ (Ent.re [2] rfl)
 ·rw [decide_eq_false h] at hq
  have hs := lsub_ok E x y hx hy
  rw [subC_lt hx hy] at hs
  generalize subW x y = s at *
  by_cases h2 : x.n < y.n
  ·rw [decide_eq_true h2] at hs
   refine Does.of Tryz.func174 rfl Tryz.ntmps174 rfl rfl fun F => ?_
   refine Xb ?_
   refine L_o rfl rfl rfl (O_box rfl fun b2 => ?_)
   refine L_o rfl rfl rfl (O_box rfl fun b3 => ?_)
   refine Xn ?_
   refine XbT ?_
   refine Lq (Q_geql eqgN hq rfl rfl) ?_
   refine Xay ?_
   refine XbT ?_
   refine L_o rfl rfl rfl (O_call [] [0,1,2] hs rfl rfl ?_)
   rintro _ _ ⟨rfl, rfl⟩
   refine Xeb ?_
   refine L_o rfl rfl rfl (O_alloc fun b5 => ?_)
   refine Xz ?_
   refine Xx ?_
   refine Xm ?_
   refine XbK ?_
   exact retQ_ret _ [] (.cons (RV_tmp rfl) .nil) ⟨by unfold cmpN; rw [if_neg h, if_pos h2]; rfl, rfl⟩ (Ent.re [3] rfl)
  ·rw [decide_eq_false h2] at hs
   refine Does.of Tryz.func174 rfl Tryz.ntmps174 rfl rfl fun F => ?_
   refine Xb ?_
   refine L_o rfl rfl rfl (O_box rfl fun b2 => ?_)
   refine L_o rfl rfl rfl (O_box rfl fun b3 => ?_)
   refine Xn ?_
   refine XbT ?_
   refine Lq (Q_geql eqgN hq rfl rfl) ?_
   refine Xay ?_
   refine XbT ?_
   refine L_o rfl rfl rfl (O_call [] [0,1,2] hs rfl rfl ?_)
   rintro _ _ ⟨rfl, rfl⟩
   refine Xds ?_
   refine L_o rfl rfl rfl (O_alloc fun b5 => ?_)
   refine Xz ?_
   refine Xx ?_
   refine Xy ?_
   refine Xaf ?_
   exact retQ_ret _ [] (.cons (RV_tmp rfl) .nil) ⟨by unfold cmpN; rw [if_neg h, if_neg h2]; rfl, rfl⟩ (Ent.re [3] rfl)
end Go.Proofs
/- Numbers of four words: built. -/
set_option autoImplicit false
namespace Go.SL
section
variable {P : Program} {t el by_ : Nat} {z : Value}
theorem Places.arr4 [u : TyU P t (.array 4 el)] [v : TyI P el 1 z by_] {z' : Value} {by' : Nat} [v' : TyI P t 4 z' by'] {zero : List Value} (hz : z'.cells = zero.toArray) : Places P t [(0, 1), (1, 1), (2, 1), (3, 1)] zero := ⟨fun w parts cs h => by
 obtain ⟨i, hi, _, hz', _⟩ := v'.get
 obtain ⟨r, hr, hs', _⟩ := v.get
 have key : ∀ (l : List (Nat × Value)) (c0 c1 : Array Value), Instr.fill (fun x => ([(0, 1), (1, 1), (2, 1), (3, 1)] : List (Nat × Nat))[x]?) c0 l = some c1 → Instr.fill (fun i => some (i, 1)) c0 l = some c1 := by
  intro l
  induction l with
  | nil => intro c0 c1 h; exact h
  | cons p l ih =>
   intro c0 c1 h
   obtain ⟨i, v⟩ := p
   match i with
   | 0 => simp only [Instr.fill] at h ⊢; simp at h ⊢; exact ⟨h.1, ih _ _ h.2⟩
   | 1 => simp only [Instr.fill] at h ⊢; simp at h ⊢; exact ⟨h.1, ih _ _ h.2⟩
   | 2 => simp only [Instr.fill] at h ⊢; simp at h ⊢; exact ⟨h.1, ih _ _ h.2⟩
   | 3 => simp only [Instr.fill] at h ⊢; simp at h ⊢; exact ⟨h.1, ih _ _ h.2⟩
   | j + 4 => simp [Instr.fill] at h
 simp only [Instr.build, Sem.run_bind, zeroValue, typeInfo, run_program, Result.andThen_ok, hi, hz', Sem.run_pure, run_underlying u.h, sizeOf, hr, hs', hz, Nat.mul_one, key _ _ _ (by simpa using h)]⟩
end
end Go.SL
/- The two moduli; the base; the curve's b. -/
set_option autoImplicit false
namespace Go.Proofs
open Go.SL
instance : Places Tryz.prog 24 [(0, 1), (1, 1), (2, 1), (3, 1)] [u64 0, u64 0, u64 0, u64 0] := Places.arr4 rfl
def mP : W4 := ⟨18446744073709551615, 4294967295, 0, 18446744069414584321⟩
def rrP : W4 := ⟨3, 18446744056529682431, 18446744073709551614, 21474836477⟩
attribute [local irreducible] J JL QOp JOp seqQ blockQ loopQ retQ slc cel hex star pur stars Does RV Ent pAt scopeQ
theorem fmod_ok (E : World) : Does Tryz.prog E 127 [] [] fun r L => r = modV mP 1 rrP ∧ L = [] := by
 refine Does.of Tryz.func127 rfl Tryz.ntmps127 rfl rfl fun F => ?_
 refine Xb ?_
 refine L_o rfl rfl rfl (O_alloc fun b0 => ?_)
 refine Ln ?_
 refine XW ?_
 refine Xk ?_
 refine Xk ?_
 exact XcN
theorem mP_n : mP.n = 115792089210356248762697446949407573530086143415290314195533631308867097853951 := by decide
def mQ : W4 := ⟨17562291160714782033, 13611842547513532036, 18446744073709551615, 18446744069414584320⟩
def rrQ : W4 := ⟨9449762124159643298, 5087230966250696614, 2901921493521525849, 7413256579398063648⟩
theorem smod_ok (E : World) : Does Tryz.prog E 95 [] [] fun r L => r = modV mQ 14758798090332847183 rrQ ∧ L = [] := by
 refine Does.of Tryz.func95 rfl Tryz.ntmps95 rfl rfl fun F => ?_
 refine Xb ?_
 refine L_o rfl rfl rfl (O_alloc fun b0 => ?_)
 refine Ln ?_
 refine XW ?_
 refine Xk ?_
 refine Xk ?_
 exact XcN
theorem mQ_n : mQ.n = 115792089210356248762697446949407573529996955224135760342422259061068512044369 := by decide
/-- A point, as it lies. -/
abbrev ptL (x y : W4) (none : Bool) : List Value := [u64 x.a, u64 x.b, u64 x.c, u64 x.d, u64 y.a, u64 y.b, u64 y.c, u64 y.d, .bool none]
abbrev ptV (x y : W4) (none : Bool) : Value := .agg (ptL x y none).toArray
def gX : W4 := ⟨17627433388654248598, 8575836109218198432, 17923454489921339634, 7716867327612699207⟩
def gY : W4 := ⟨14678990851816772085, 3156516839386865358, 10297457778147434006, 5756518291402817435⟩
theorem pbase_ok (E : World) : Does Tryz.prog E 37 [] [] fun r L => r = ptV gX gY false ∧ L = [] := by
 refine Does.of Tryz.func37 rfl Tryz.ntmps37 rfl rfl fun F => ?_
 refine Xb ?_
 refine L_o rfl rfl rfl (O_alloc fun b0 => ?_)
 refine Ln ?_
 refine XW ?_
 refine Xk ?_
 refine Xk ?_
 exact XcN
end Go.Proofs
