/- Part 17 of the texts below the row: Num13, MonP, Num14, NumP. -/
import Derived.Test.YtdggicfcpcjjlaaGreatDoorM1
import Derived.Test.YtdggicfcpcjjlaaGreatDoorM13
import Derived.Test.YtdggicfcpcjjlaaGreatDoorM16
/- A product by 2^256, as the code makes it. -/
set_option autoImplicit false
namespace Go.Proofs
open Go.SL
/-- Words, as cells. -/
abbrev tyU : Ty Nat := ⟨22, 1, fun x => [u64 x], fun _ => rfl, by decide, by intro a v hv; simp at hv; subst hv; rfl⟩
def W4.at (x : W4) : Nat → Nat
 | 0 => x.a
 | 1 => x.b
 | 2 => x.c
 | _ => x.d
theorem W4.at_get (x : W4) (i : Nat) (hi : i < 4) : (x.l.toArray)[i * 1]? = some (u64 (x.at i)) := by
 match i, hi with
 | 0, _ => rfl
 | 1, _ => rfl
 | 2, _ => rfl
 | 3, _ => rfl
theorem W4.at_lt {x : W4} (h : x.ok) (i : Nat) : x.at i < 18446744073709551616 := by
 match i with
 | 0 => exact h.a
 | 1 => exact h.b
 | 2 => exact h.c
 | _ + 3 => exact h.d
def shW (t : W6) : W6 := ⟨t.b, t.c, t.d, t.e, t.f, 0⟩
theorem shW_ok {t : W6} (h : t.ok) : (shW t).ok := ⟨h.b, h.c, h.d, h.e, h.f, by show 0 < 18446744073709551616; decide⟩
def m1T (a b : W4) (i : Nat) (t : W6) : W6 := stpW (a.at i) t b
def m2T (m : W4) (N : Nat) (t : W6) : W6 := stpW (t.a * N % 18446744073709551616) t m
def mulT (m : W4) (N : Nat) (a b : W4) : Nat → W6
 | 0 => ⟨0, 0, 0, 0, 0, 0⟩
 | i + 1 => shW (m2T m N (m1T a b i (mulT m N a b i)))
theorem mulT_ok (m : W4) (N : Nat) (a b : W4) : ∀ i, (mulT m N a b i).ok
 | 0 => by constructor <;> (show 0 < 18446744073709551616; decide)
 | _ + 1 => shW_ok (stpW_ok _ _ _)
def lo4 (t : W6) : W4 := ⟨t.a, t.b, t.c, t.d⟩
theorem lo4_ok {t : W6} (h : t.ok) : (lo4 t).ok := ⟨h.a, h.b, h.c, h.d⟩
def mulW (m : W4) (N : Nat) (a b : W4) : W4 := if (mulT m N a b 4).e = 0 ∧ (lo4 (mulT m N a b 4)).n < m.n then lo4 (mulT m N a b 4) else subW (lo4 (mulT m N a b 4)) m
attribute [local irreducible] J JL QOp JOp seqQ blockQ loopQ retQ slc cel hex star pur stars Does RV Ent pAt scopeQ
theorem mmul_ok (E : World) (m rr a b : W4) (N : Nat) (hm : m.ok) (_ : N < 18446744073709551616) (ha : a.ok) (hb : b.ok) : Does Tryz.prog E 144 [modV m N rr, a.v, b.v] [] fun r L => r = (mulW m N a b).v ∧ L = [] := by
 refine Does.of Tryz.func144 rfl Tryz.ntmps144 rfl rfl fun F => ?_
 refine Xb ?_
 refine L_o rfl rfl rfl (O_box rfl fun b3 => ?_)
 refine L_o rfl rfl rfl (O_box rfl fun b4 => ?_)
 refine L_o rfl rfl rfl (O_box rfl fun b5 => ?_)
 refine L_o rfl rfl rfl (O_alloc fun b6 => ?_)
 refine Xby ?_
 refine L_o rfl rfl rfl (O_alloc fun b7 => ?_)
 refine Xt ?_
 refine Sr ?_
 refine Xa5 ?_
 refine XJ ?_
 refine J_loop (fun i : Nat => i ≤ 4) (fun i => [(3, .pointer (some ⟨b3, 0, none⟩)), (5, .pointer (some ⟨b5, 0, none⟩)), (6, .pointer (some ⟨b6, 0, none⟩)), (7, .pointer (some ⟨b7, 0, none⟩)), (13, a.v), (14, .int .i64 (i : Int))]) (fun i => [cel b7 (mulT m N a b i).l 272, cel b6 [u64 0, u64 0, u64 0, u64 0] 24, cel b5 b.l 24, cel b4 a.l 24, cel b3 (modL m N rr) 143, F]) (fun i => 4 - i) 0 (Nat.zero_le _) ⟨rfl, rfl, rfl, rfl, rfl, rfl, trivial⟩ (Ent.refl _) ?_
 intro i hi
 by_cases h4 : i < 4
 ·have ht := mulT_ok m N a b i
  have hz : mulT m N a b (i + 1) = shW (m2T m N (m1T a b i (mulT m N a b i))) := rfl
  have h1 := mstep_ok E (mulT m N a b i) (a.at i) b ht (W4.at_lt ha i) hb
  have h2 := mstep_ok E (m1T a b i (mulT m N a b i)) ((m1T a b i (mulT m N a b i)).a * N % 18446744073709551616) m (stpW_ok _ _ _) (Nat.mod_lt _ (by decide)) hm
  refine Xaz ?_
  refine Lq (Q_aiS (v' := u64 (a.at i)) i rfl rfl rfl h4 rfl (W4.at_get a i h4)) ?_
  refine Xi ?_
  refine Xo ?_
  refine Xbv ?_
  refine L_o rfl rfl rfl (O_call [] [0,1,2,3,4,5] h1 rfl rfl ?_)
  rintro _ _ ⟨rfl, rfl⟩
  refine Xc ?_
  refine XG ?_
  refine Xo ?_
  refine XbL ?_
  refine XbM ?_
  refine XD ?_
  refine Lq (Q_ld 4 rfl rfl rfl rfl) ?_
  refine Lq (Q_mul6w (m1T a b i (mulT m N a b i)).a N rfl rfl) ?_
  refine XD ?_
  refine XaU ?_
  refine L_o rfl rfl rfl (O_call [] [0,1,2,3,4,5] h2 rfl rfl ?_)
  rintro _ _ ⟨rfl, rfl⟩
  refine Xc ?_
  refine XB ?_
  refine DH [0] [0,1] (.quiet 0 (.quiet 1 (.loud 2 .done))) Tryz.mixed ?_
  refine Sq (Ent.re [0] rfl) rfl (Q_slA 0 6 0 rfl rfl rfl (by decide) (by decide) rfl) ?_
  refine Sq (Ent.re [0] rfl) rfl (Q_slA 1 6 1 rfl ⟨_, rfl⟩ rfl (by decide) (by decide) rfl) ?_
  refine S_o rfl rfl rfl rfl (O_copyC (τ := tyU) (q := 5) (cs' := [u64 (m2T m N (m1T a b i (mulT m N a b i))).b, u64 (m2T m N (m1T a b i (mulT m N a b i))).c, u64 (m2T m N (m1T a b i (mulT m N a b i))).d, u64 (m2T m N (m1T a b i (mulT m N a b i))).e, u64 (m2T m N (m1T a b i (mulT m N a b i))).f, u64 (m2T m N (m1T a b i (mulT m N a b i))).f]) (T := ⟨some ⟨b7, 1, none⟩, 5, 5⟩) 0 [(m2T m N (m1T a b i (mulT m N a b i))).b, (m2T m N (m1T a b i (mulT m N a b i))).c, (m2T m N (m1T a b i (mulT m N a b i))).d, (m2T m N (m1T a b i (mulT m N a b i))).e, (m2T m N (m1T a b i (mulT m N a b i))).f] rfl (fun w hs => hs.rdC 0 [] rfl rfl (Nat.le_refl _)) rfl rfl rfl rfl rfl (Nat.le_succ 5) rfl ⟨[], free_no (by kernel_rfl), ?_⟩)
  refine Xbg ?_
  refine Xh ?_
  refine Lq (Q_ia (o' := 5) 5 rfl rfl rfl (by decide) rfl) ?_
  refine L_s rfl rfl (O_st1 0 rfl rfl rfl rfl rfl ?_)
  refine X6 ?_
  refine Xa0 ?_
  exact Xf1
 ·obtain rfl : i = 4 := by omega
  have hr := mulT_ok m N a b 4
  unfold mulW
  generalize mulT m N a b 4 = r at *
  have hs := lsub_ok E (lo4 r) m (lo4_ok hr) hm
  rw [subC_lt (lo4_ok hr) hm] at hs
  generalize subW (lo4 r) m = d at *
  refine Xbk ?_
  refine XbL ?_
  refine XbM ?_
  refine XcS ?_
  refine XbM ?_
  refine XcT ?_
  refine XbM ?_
  refine Xch ?_
  refine XbM ?_
  refine Xk ?_
  refine L_o rfl rfl rfl (O_alloc fun b10 => ?_)
  refine XB ?_
  refine J_seq ?_
  by_cases he : r.e = 0
  ·by_cases hn : (lo4 r).n < m.n
   ·rw [decide_eq_true hn] at hs
    rw [if_pos ⟨he, hn⟩]
    refine Xcd ?_
    refine XD ?_
    refine XeU ?_
    rintro _ _ ⟨rfl, rfl⟩
    refine Xcu ?_
    refine Lq (Q_extract (v := .bool true) rfl rfl) ?_
    refine L_o rfl rfl rfl (O_alloc fun b11 => ?_)
    refine Xz ?_
    refine Xd6 ?_
    refine Lq (Q_ld 2 rfl rfl rfl rfl) ?_
    refine Xci ?_
    refine Xf ?_
    refine Lq ((Q_not rfl).as (v' := .bool false) rfl) ?_
    refine Xan ?_
    refine XM ?_
    refine Xdw ?_
    refine Xr ?_
    refine J_ret ?_
    exact Xe7
   ·rw [decide_eq_false hn] at hs
    rw [if_neg fun h => hn h.2]
    refine Xcd ?_
    refine XD ?_
    refine XeU ?_
    rintro _ _ ⟨rfl, rfl⟩
    refine Xcu ?_
    refine Lq (Q_extract (v := .bool false) rfl rfl) ?_
    refine L_o rfl rfl rfl (O_alloc fun b11 => ?_)
    refine Xz ?_
    refine Xd6 ?_
    refine Lq (Q_ld 2 rfl rfl rfl rfl) ?_
    refine Xci ?_
    refine Xf ?_
    refine Lq ((Q_not rfl).as (v' := .bool true) rfl) ?_
    refine Xp ?_
    refine Xm ?_
    refine Xo ?_
    refine Xdw ?_
    refine Xr ?_
    refine Xa1 ?_
    exact Xe7
  ·rw [if_neg fun h => he h.1]
   refine Xcd ?_
   refine XD ?_
   refine XeU ?_
   rintro _ _ ⟨rfl, rfl⟩
   refine Xcu ?_
   refine Lq (Q_extract (v := .bool (decide ((lo4 r).n < m.n))) rfl rfl) ?_
   refine L_o rfl rfl rfl (O_alloc fun b11 => ?_)
   refine Xz ?_
   refine Xd6 ?_
   refine Lq (Q_ld 2 rfl rfl rfl rfl) ?_
   refine Xei ?_
   refine Xb0 ?_
   refine XaP ?_
   refine Xo ?_
   refine Xdw ?_
   refine Xr ?_
   refine Xa1 ?_
   exact Xe7
end Go.Proofs
/- Products in Montgomery's way, plainly. -/
set_option autoImplicit false
namespace Go.Nt
/-- What a step adds makes the lowest word 0. -/
theorem mon_zero {W M N t : Nat} (h : (M * N + 1) % W = 0) : (t + t % W * N % W * M) % W = 0 := by
 have e : (t + t % W * N % W * M) % W = t * (M * N + 1) % W := by
  rw [Nat.add_mod, Nat.mul_mod (t % W * N % W) M, Nat.mod_mod, ← Nat.mul_mod, Nat.mul_assoc (t % W), Nat.mul_mod (t % W), Nat.mod_mod, ← Nat.mul_mod, ← Nat.add_mod, Nat.mul_add, Nat.mul_one, Nat.mul_comm N M, Nat.add_comm]
 rw [e, Nat.mul_mod, h, Nat.mul_zero, Nat.zero_mod]
theorem mon_step {W M N t x b : Nat} (hW : 0 < W) (h : (M * N + 1) % W = 0) (hx : x < W) (ht : t < b + M) :
 (t + x * b + (t + x * b) % W * N % W * M) / W * W = t + x * b + (t + x * b) % W * N % W * M ∧ (t + x * b + (t + x * b) % W * N % W * M) / W < b + M := by
 have hz := mon_zero (t := t + x * b) h
 have hq : (t + x * b) % W * N % W < W := Nat.mod_lt _ hW
 generalize (t + x * b) % W * N % W = q at *
 refine ⟨Nat.div_mul_cancel (Nat.dvd_of_mod_eq_zero hz), ?_⟩
 rw [Nat.div_lt_iff_lt_mul hW]
 have h1 : x * b ≤ (W - 1) * b := Nat.mul_le_mul_right b (by omega)
 have h2 : q * M ≤ (W - 1) * M := Nat.mul_le_mul_right M (by omega)
 have h3 : (b + M) * W = (b + M) + (W - 1) * b + (W - 1) * M := by
  obtain ⟨k, rfl⟩ : ∃ k, W = k + 1 := ⟨W - 1, by omega⟩
  rw [Nat.add_sub_cancel, Nat.mul_succ, Nat.add_mul, Nat.mul_comm b k, Nat.mul_comm M k]; omega
 omega
/-- Who times R is a b and a multiple of M is a b / R. -/
theorem redc {T R ri M a b Q : Nat} (h : T * R = a * b + Q * M) (hr : R * ri % M = 1 % M) : T % M = a * b * ri % M := by
 have e1 : T * R * ri % M = T % M := by
  rw [Nat.mul_assoc, Nat.mul_mod, hr, ← Nat.mul_mod, Nat.mul_one]
 have e2 : T * R * ri = a * b * ri + M * (Q * ri) := by
  rw [h, Nat.add_mul, Nat.mul_comm Q M, Nat.mul_assoc M]
 rw [← e1, e2, Nat.add_mul_mod_self_left]
/-- The product of two numbers by R: less than twice M. -/
theorem redc_lt {T R M a b Q : Nat} (h : T * R = a * b + Q * M) (hQ : Q < R) (hab : a * b < M * R) : T < 2 * M := by
 have h1 : Q * M < R * M ∨ M = 0 := by
  rcases Nat.eq_zero_or_pos M with z | z
  ·exact .inr z
  ·exact .inl (Nat.mul_lt_mul_of_pos_right hQ z)
 rcases h1 with h1 | h1
 ·have h2 : T * R < (2 * M) * R := by
   rw [h, Nat.mul_assoc, Nat.two_mul, Nat.mul_comm R M] at *; omega
  exact Nat.lt_of_mul_lt_mul_right h2
 ·subst h1; omega
end Go.Nt
/- A product by 2^256, as a number. -/
set_option autoImplicit false
namespace Go.Proofs
open Go.SL
/-- What a modulus is asked. -/
structure MOk (m : W4) (N ri : Nat) : Prop where
 ok : m.ok
 hN : N < 18446744073709551616
 h : (m.n * N + 1) % 18446744073709551616 = 0
 r : 115792089237316195423570985008687907853269984665640564039457584007913129639936 * ri % m.n = 1 % m.n
 pos : 0 < m.n
theorem W6.lo (t : W6) (h : t.a < 18446744073709551616) : t.n % 18446744073709551616 = t.a := by unfold W6.n; omega
theorem shW_n (t : W6) : t.n = t.a + 18446744073709551616 * (shW t).n := by unfold W6.n shW; dsimp only; omega
theorem m1T_n {a b m : W4} {t : W6} {i : Nat} (ha : a.ok) (hb : b.ok) (hm : m.ok) (ht : t.ok) (hl : t.n < b.n + m.n) : (m1T a b i t).n = t.n + a.at i * b.n := by
 refine stpW_n ht ?_
 have h1 := W4.lt hb; have h2 := W4.lt hm
 have h3 : a.at i * b.n ≤ 18446744073709551616 * 115792089237316195423570985008687907853269984665640564039457584007913129639936 := Nat.mul_le_mul (Nat.le_of_lt (W4.at_lt ha i)) (Nat.le_of_lt h1)
 omega
theorem mulT_step {m a b : W4} {N ri : Nat} (hm : MOk m N ri) (ha : a.ok) (hb : b.ok) (i : Nat) (hl : (mulT m N a b i).n < b.n + m.n) :
 ∃ q, q < 18446744073709551616 ∧ (mulT m N a b (i + 1)).n * 18446744073709551616 = (mulT m N a b i).n + a.at i * b.n + q * m.n ∧ (mulT m N a b (i + 1)).n < b.n + m.n := by
 have ht := mulT_ok m N a b i
 have e : mulT m N a b (i + 1) = shW (m2T m N (m1T a b i (mulT m N a b i))) := rfl
 rw [e]
 generalize mulT m N a b i = t at *
 have h1 := m1T_n (i := i) ha hb hm.ok ht hl
 have hs := Nt.mon_step (W := 18446744073709551616) (M := m.n) (N := N) (t := t.n) (x := a.at i) (b := b.n) (by decide) hm.h (W4.at_lt ha i) hl
 have ok1 : (m1T a b i t).ok := stpW_ok _ _ _
 rw [← h1] at hs
 generalize m1T a b i t = u at *
 rw [W6.lo u ok1.a] at hs
 have hq : u.a * N % 18446744073709551616 < 18446744073709551616 := Nat.mod_lt _ (by decide)
 have h2 : (m2T m N u).n = u.n + u.a * N % 18446744073709551616 * m.n := by
  refine stpW_n ok1 ?_
  have h5 := W4.lt hb; have h6 := W4.lt hm.ok
  have h3 : u.a * N % 18446744073709551616 * m.n ≤ 18446744073709551616 * 115792089237316195423570985008687907853269984665640564039457584007913129639936 := Nat.mul_le_mul (Nat.le_of_lt hq) (Nat.le_of_lt h6)
  have h4 : a.at i * b.n ≤ 18446744073709551616 * 115792089237316195423570985008687907853269984665640564039457584007913129639936 := Nat.mul_le_mul (Nat.le_of_lt (W4.at_lt ha i)) (Nat.le_of_lt h5)
  omega
 have ok2 : (m2T m N u).ok := stpW_ok _ _ _
 rw [← h2] at hs
 refine ⟨_, hq, ?_, ?_⟩
 ·rw [← h1, ← h2]
  have := W6.lo _ ok2.a
  have e3 : (m2T m N u).n = (m2T m N u).a + 18446744073709551616 * (shW (m2T m N u)).n := shW_n _
  omega
 ·have e3 : (m2T m N u).n = (m2T m N u).a + 18446744073709551616 * (shW (m2T m N u)).n := shW_n _
  have := ok2.a
  omega
theorem lo4_n (t : W6) : t.n = (lo4 t).n + 115792089237316195423570985008687907853269984665640564039457584007913129639936 * t.e + 2135987035920910082395021706169552114602704522356652769947041607822219725780640550022962086936576 * t.f := by
 unfold W6.n W4.n lo4; dsimp only
theorem mulW_fin {m : W4} {t : W6} (hm : m.ok) (ht : t.ok) (h2M : t.n < 2 * m.n) : (if t.e = 0 ∧ (lo4 t).n < m.n then lo4 t else subW (lo4 t) m).n = t.n % m.n := by
 have he := lo4_n t
 have l3 := W4.lt hm
 have hlo := W4.lt (lo4_ok ht)
 have hs := subW_n (lo4_ok ht) hm
 have hsl := W4.lt (subW_ok (lo4 t) m)
 have hc := subC_lt (lo4_ok ht) hm
 have hc1 : subC (lo4 t) m 4 ≤ 1 := sbC_le ..
 split
 ·rename_i h
  have e : t.n = (lo4 t).n := by omega
  rw [e]; exact (Nat.mod_eq_of_lt h.2).symm
 ·rename_i h
  have hge : m.n ≤ t.n := by
   by_cases he0 : t.e = 0
   ·have : ¬ (lo4 t).n < m.n := fun h' => h ⟨he0, h'⟩
    omega
   ·omega
  have e1 : t.n % m.n = t.n - m.n := by rw [Nat.mod_eq_sub_mod hge]; exact Nat.mod_eq_of_lt (by omega)
  rw [e1]
  by_cases h3 : subC (lo4 t) m 4 = 1
  ·rw [h3] at hs; omega
  ·omega
theorem comb4 {t1 t2 t3 t4 p0 p1 p2 p3 r0 r1 r2 r3 : Nat} (e0 : t1 * 18446744073709551616 = 0 + p0 + r0) (e1 : t2 * 18446744073709551616 = t1 + p1 + r1) (e2 : t3 * 18446744073709551616 = t2 + p2 + r2) (e3 : t4 * 18446744073709551616 = t3 + p3 + r3) :
 t4 * 115792089237316195423570985008687907853269984665640564039457584007913129639936 = p0 + 18446744073709551616 * p1 + 340282366920938463463374607431768211456 * p2 + 6277101735386680763835789423207666416102355444464034512896 * p3 + (r0 + 18446744073709551616 * r1 + 340282366920938463463374607431768211456 * r2 + 6277101735386680763835789423207666416102355444464034512896 * r3) := by
 have e : t4 * 115792089237316195423570985008687907853269984665640564039457584007913129639936 = t4 * 18446744073709551616 * 6277101735386680763835789423207666416102355444464034512896 := by rw [Nat.mul_assoc]
 have f : t3 * 6277101735386680763835789423207666416102355444464034512896 = t3 * 18446744073709551616 * 340282366920938463463374607431768211456 := by rw [Nat.mul_assoc]
 have g : t2 * 340282366920938463463374607431768211456 = t2 * 18446744073709551616 * 18446744073709551616 := by rw [Nat.mul_assoc]
 rw [e, e3, Nat.add_mul, Nat.add_mul, f, e2, Nat.add_mul, Nat.add_mul, g, e1, Nat.add_mul, Nat.add_mul, e0]
 clear e f g e0 e1 e2 e3
 grind
theorem mulW_n {m a b : W4} {N ri : Nat} (hm : MOk m N ri) (ha : a.ok) (hb : b.ok) (hl : a.n < m.n ∨ b.n < m.n) : (mulW m N a b).n = a.n * b.n * ri % m.n := by
 have l1 := W4.lt ha; have l2 := W4.lt hb; have l3 := W4.lt hm.ok
 have hp := hm.pos
 obtain ⟨q0, hq0, e0, b0⟩ := mulT_step hm ha hb 0 (show 0 < _ by omega)
 obtain ⟨q1, hq1, e1, b1⟩ := mulT_step hm ha hb 1 b0
 obtain ⟨q2, hq2, e2, b2⟩ := mulT_step hm ha hb 2 b1
 obtain ⟨q3, hq3, e3, b3⟩ := mulT_step hm ha hb 3 b2
 have hT : (mulT m N a b 4).n * 115792089237316195423570985008687907853269984665640564039457584007913129639936 = a.n * b.n + (q0 + 18446744073709551616 * q1 + 340282366920938463463374607431768211456 * q2 + 6277101735386680763835789423207666416102355444464034512896 * q3) * m.n := by
  have f0 : (mulT m N a b 0).n = 0 := rfl
  have f1 : a.n * b.n = a.a * b.n + 18446744073709551616 * (a.b * b.n) + 340282366920938463463374607431768211456 * (a.c * b.n) + 6277101735386680763835789423207666416102355444464034512896 * (a.d * b.n) := by
   unfold W4.n; simp only [Nat.add_mul, Nat.mul_assoc]
  rw [f1]
  simp only [Nat.add_mul, Nat.mul_assoc]
  simp only [W4.at] at e0 e1 e2 e3
  rw [f0] at e0
  exact comb4 e0 e1 e2 e3
 have hab : a.n * b.n < m.n * 115792089237316195423570985008687907853269984665640564039457584007913129639936 := by
  rcases hl with h | h
  ·exact Nat.mul_lt_mul_of_lt_of_lt h l2
  ·have := Nat.mul_lt_mul_of_lt_of_lt l1 h
   rw [Nat.mul_comm m.n]; exact this
 have h2M := Nt.redc_lt (R := 115792089237316195423570985008687907853269984665640564039457584007913129639936) (M := m.n) hT (by omega) hab
 have hr := Nt.redc hT hm.r
 rw [← hr]
 clear hT hr e0 e1 e2 e3 b0 b1 b2 b3 hq0 hq1 hq2 hq3 hab
 have ht := mulT_ok m N a b 4
 unfold mulW
 generalize mulT m N a b 4 = t at *
 exact mulW_fin hm.ok ht h2M
end Go.Proofs
/- Prime numbers, plainly: Euclid, Fermat, and a number that is prime because of its predecessor's factors. -/
set_option autoImplicit false
namespace Go.Nt
def Pr (p : Nat) : Prop := 2 ≤ p ∧ ∀ d, d ∣ p → d = 1 ∨ d = p
theorem Pr.cop {p a : Nat} (h : Pr p) (ha : ¬ p ∣ a) : Nat.gcd p a = 1 := by
 rcases h.2 _ (Nat.gcd_dvd_left p a) with e | e
 ·exact e
 ·exact absurd (e ▸ Nat.gcd_dvd_right p a) ha
theorem Pr.euclid {p a b : Nat} (h : Pr p) (hab : p ∣ a * b) : p ∣ a ∨ p ∣ b := by
 by_cases ha : p ∣ a
 ·exact .inl ha
 ·exact .inr (Nat.Coprime.dvd_of_dvd_mul_left (h.cop ha) hab)
def prodL : List Nat → Nat
 | [] => 1
 | x :: l => x * prodL l
theorem prodL_perm {l m : List Nat} (h : l.Perm m) : prodL l = prodL m := by
 induction h with
 | nil => rfl
 | cons x _ ih => simp only [prodL, ih]
 | swap x y l => simp only [prodL]; rw [← Nat.mul_assoc, ← Nat.mul_assoc, Nat.mul_comm x y]
 | trans _ _ h1 h2 => exact h1.trans h2
theorem prodL_sub : ∀ (m l : List Nat), m.Nodup → (∀ x ∈ m, x ∈ l) → l.length ≤ m.length → prodL m = prodL l
 | [], l, _, _, h => by
  have h0 : l = [] := List.eq_nil_of_length_eq_zero (by simpa using h)
  rw [h0]
 | x :: m, l, hn, hs, hl => by
  have hx : x ∈ l := hs x (by simp)
  have hp := List.perm_cons_erase hx
  rw [prodL_perm hp]
  have hn2 := List.nodup_cons.1 hn
  have hle : (l.erase x).length ≤ m.length := by
   rw [List.length_erase_of_mem hx]; simp only [List.length_cons] at hl; omega
  simp only [prodL]
  rw [prodL_sub m (l.erase x) hn2.2 (fun y hy => (List.mem_erase_of_ne (fun (e : y = x) => hn2.1 (by rw [← e]; exact hy))).2 (hs y (by simp [hy]))) hle]
theorem prodL_map (p x : Nat) : ∀ l : List Nat, prodL (l.map fun i => x * i % p) % p = x ^ l.length * prodL l % p
 | [] => rfl
 | i :: l => by
  simp only [List.map_cons, prodL, List.length_cons]
  rw [Nat.mul_mod, prodL_map p x l, Nat.mod_mod, ← Nat.mul_mod]
  congr 1
  rw [Nat.pow_succ]
  simp only [Nat.mul_assoc, Nat.mul_left_comm, Nat.mul_comm]
theorem prodL_cop {p : Nat} (h : Pr p) : ∀ l : List Nat, (∀ x ∈ l, ¬ p ∣ x) → ¬ p ∣ prodL l
 | [], _, e => by have := Nat.le_of_dvd (by decide) e; have := h.1; simp only [prodL] at *; omega
 | x :: l, hl, e => by
  rcases h.euclid e with e | e
  ·exact hl x (by simp) e
  ·exact prodL_cop h l (fun y hy => hl y (by simp [hy])) e
theorem dvd_sub_of {p u v : Nat} (h : u % p = v % p) : p ∣ u - v := Nat.dvd_of_mod_eq_zero (Nat.sub_mod_eq_zero_of_mod_eq h)
theorem fermat {p x : Nat} (h : Pr p) (hx : ¬ p ∣ x) : x ^ (p - 1) % p = 1 := by
 have hp := h.1
 have hx0 : 0 < x := Nat.pos_of_ne_zero fun e => hx (e ▸ Nat.dvd_zero p)
 let l := (List.range (p - 1)).map (· + 1)
 have hl : ∀ i ∈ l, 1 ≤ i ∧ i < p := by
  intro i hi
  obtain ⟨j, hj, rfl⟩ := List.mem_map.1 hi
  have := List.mem_range.1 hj
  omega
 have hlen : l.length = p - 1 := by simp [l]
 have hlc : ∀ i ∈ l, ¬ p ∣ i := fun i hi e => by
  have := Nat.le_of_dvd (by have := hl i hi; omega) e
  have := hl i hi; omega
 have hnd : l.Nodup := by
  show ((List.range (p - 1)).map (· + 1)).Nodup
  rw [List.Nodup, List.pairwise_map]
  exact List.Pairwise.imp (fun hne e => hne (by omega)) (List.nodup_range (n := p - 1))
 have hm : (l.map fun i => x * i % p).Nodup := by
  rw [List.Nodup, List.pairwise_map]
  refine List.Pairwise.imp_of_mem ?_ hnd
  intro i j hi hj hne e
  apply hne
  have h1 := hl i hi
  have h2 := hl j hj
  have key : ∀ i j, 1 ≤ i → i < p → 1 ≤ j → j < p → x * i % p = x * j % p → i ≤ j := by
   intro i j a1 a2 b1 b2 e
   have d := dvd_sub_of e
   rw [← Nat.mul_sub] at d
   rcases h.euclid d with d | d
   ·exact absurd d hx
   ·rcases Nat.eq_zero_or_pos (i - j) with z | z
    ·omega
    ·have := Nat.le_of_dvd z d; omega
  have := key i j h1.1 h1.2 h2.1 h2.2 e
  have := key j i h2.1 h2.2 h1.1 h1.2 e.symm
  omega
 have hsub : ∀ y ∈ l.map (fun i => x * i % p), y ∈ l := by
  intro y hy
  obtain ⟨i, hi, rfl⟩ := List.mem_map.1 hy
  have h1 := hl i hi
  have hlt : x * i % p < p := Nat.mod_lt _ (by omega)
  have hne : x * i % p ≠ 0 := fun e => by
   rcases h.euclid (Nat.dvd_of_mod_eq_zero e) with d | d
   ·exact hx d
   ·exact hlc i hi d
  exact List.mem_map.2 ⟨x * i % p - 1, List.mem_range.2 (by omega), by omega⟩
 have h1 := prodL_sub _ l hm hsub (by simp)
 have h2 := prodL_map p x l
 rw [h1, hlen] at h2
 have h3 : p ∣ (x ^ (p - 1) - 1) * prodL l := by
  have := dvd_sub_of h2.symm
  rwa [Nat.sub_mul, Nat.one_mul]
 rcases h.euclid h3 with d | d
 ·have hpos : 0 < x ^ (p - 1) := Nat.pow_pos hx0
  obtain ⟨c, hc⟩ := d
  have : x ^ (p - 1) = 1 + p * c := by omega
  rw [this, Nat.add_mul_mod_self_left, Nat.mod_eq_of_lt (by omega)]
 ·exact absurd d (prodL_cop h l hlc)
theorem pow_gcd {p X : Nat} (m n : Nat) : X ^ m % p = 1 % p → X ^ n % p = 1 % p → X ^ Nat.gcd m n % p = 1 % p := by
 induction m, n using Nat.gcd.induction with
 | H0 n => intro _ h; rw [Nat.gcd_zero_left]; exact h
 | H1 m n _ ih =>
  intro h1 h2
  rw [Nat.gcd_rec]
  refine ih ?_ h1
  have e : X ^ n = (X ^ m) ^ (n / m) * X ^ (n % m) := by
   rw [← Nat.pow_mul, ← Nat.pow_add, Nat.div_add_mod]
  rw [e, Nat.mul_mod, Nat.pow_mod, h1, ← Nat.pow_mod, Nat.one_pow, ← Nat.mul_mod, Nat.one_mul] at h2
  exact h2
theorem fac_ex : ∀ n : Nat, 2 ≤ n → ∃ r, Pr r ∧ r ∣ n := by
 intro n
 induction n using Nat.strongRecOn with
 | ind n ih =>
  intro hn
  by_cases h : ∃ d, d ∣ n ∧ d ≠ 1 ∧ d ≠ n
  ·obtain ⟨d, h1, h2, h3⟩ := h
   have hle := Nat.le_of_dvd (by omega) h1
   have h0 : d ≠ 0 := fun e => by rw [e] at h1; have := Nat.eq_zero_of_zero_dvd h1; omega
   obtain ⟨r, k1, k2⟩ := ih d (by omega) (by omega)
   exact ⟨r, k1, Nat.dvd_trans k2 h1⟩
  ·refine ⟨n, ⟨hn, fun d hd => ?_⟩, Nat.dvd_refl n⟩
   by_cases e : d = 1
   ·exact .inl e
   ·by_cases e2 : d = n
    ·exact .inr e2
    ·exact absurd ⟨d, hd, e, e2⟩ h
theorem pr_of {n : Nat} (hn : 2 ≤ n) (h : ∀ r, Pr r → r ∣ n → n < r * r) : Pr n := by
 refine ⟨hn, fun d hd => ?_⟩
 by_cases e : d = 1
 ·exact .inl e
 by_cases e2 : d = n
 ·exact .inr e2
 exfalso
 obtain ⟨c, rfl⟩ := hd
 have d0 : d ≠ 0 := fun e => by rw [e] at hn; omega
 have c0 : c ≠ 0 := fun e => by rw [e] at hn; omega
 have c1 : c ≠ 1 := fun e => by rw [e] at e2; omega
 have key : ∀ u v : Nat, 2 ≤ u → u ≤ v → d * c = u * v → False := by
  intro u v h2 huv he
  obtain ⟨r, k1, k2⟩ := fac_ex u h2
  have := h r k1 (he ▸ Nat.dvd_trans k2 (Nat.dvd_mul_right u v))
  have hr := Nat.le_of_dvd (by omega) k2
  have : r * r ≤ u * v := Nat.mul_le_mul hr (Nat.le_trans hr huv)
  omega
 rcases Nat.le_total d c with hle | hle
 ·exact key d c (by omega) hle rfl
 ·exact key c d (by omega) hle (Nat.mul_comm d c)
def noDiv (n : Nat) : Nat → Bool
 | 0 => true
 | k + 1 => (n % (k + 2) != 0) && noDiv n k
theorem noDiv_t {n : Nat} : ∀ k : Nat, noDiv n k = true → ∀ d, 2 ≤ d → d < k + 2 → ¬ d ∣ n
 | 0, _, d, h1, h2, _ => by omega
 | k + 1, h, d, h1, h2, hd => by
  simp only [noDiv, Bool.and_eq_true, bne_iff_ne, ne_eq] at h
  by_cases e : d = k + 2
  ·subst e; exact h.1 (Nat.mod_eq_zero_of_dvd hd)
  ·exact noDiv_t k h.2 d h1 (by omega) hd
theorem pr_trial {n : Nat} (k : Nat) (hn : 2 ≤ n) (hk : n < (k + 2) * (k + 2)) (h : noDiv n k = true) : Pr n :=
 pr_of hn fun r hr hd => by
  by_cases e : r < k + 2
  ·exact absurd hd (noDiv_t k h r hr.1 e)
  ·exact Nat.lt_of_lt_of_le hk (Nat.mul_le_mul (by omega) (by omega))
/-- A number's part in a proof that n is prime: a prime factor of n - 1. -/
structure Wit (n a q : Nat) : Prop where
 pq : Pr q
 dv : q ∣ n - 1
 one : a ^ (n - 1) % n = 1
 far : Nat.gcd (a ^ ((n - 1) / q) % n + (n - 1)) n = 1
theorem Wit.pred {n a q r : Nat} (h : Wit n a q) (hr : Pr r) (hrn : r ∣ n) (hn : 2 ≤ n) : q ∣ r - 1 := by
 by_cases hd : q ∣ r - 1
 ·exact hd
 exfalso
 have hr2 := hr.1
 have toR : ∀ u, u % n = 1 → u % r = 1 := fun u e => by
  rw [← Nat.mod_mod_of_dvd u hrn, e, Nat.mod_eq_of_lt (by omega)]
 have h1 := toR _ h.one
 have hX : (a ^ ((n - 1) / q)) ^ q = a ^ (n - 1) := by rw [← Nat.pow_mul, Nat.div_mul_cancel h.dv]
 have hX1 : (a ^ ((n - 1) / q)) ^ q % r = 1 := by rw [hX]; exact h1
 have hfar := h.far
 generalize a ^ ((n - 1) / q) = X at *
 have hXr : ¬ r ∣ X := fun e => by
  have : r ∣ X ^ q := by
   have hq := h.pq.1
   obtain ⟨k, rfl⟩ : ∃ k, q = k + 1 := ⟨q - 1, by omega⟩
   rw [Nat.pow_succ]; exact Nat.dvd_trans e (Nat.dvd_mul_left ..)
  rw [Nat.mod_eq_zero_of_dvd this] at hX1; omega
 have hf := fermat hr hXr
 have h1r : 1 % r = 1 := Nat.mod_eq_of_lt (by omega)
 have hg := pow_gcd (p := r) (X := X) q (r - 1) (by rw [hX1, h1r]) (by rw [hf, h1r])
 rw [h.pq.cop hd, Nat.pow_one, h1r] at hg
 have h5 : r ∣ X % n + (n - 1) := by
  have h6 : X % n % r = 1 := by rw [Nat.mod_mod_of_dvd X hrn]; exact hg
  have h7 := Nat.div_add_mod (X % n) r
  rw [h6] at h7
  have : X % n + (n - 1) = r * (X % n / r) + n := by omega
  rw [this]
  exact Nat.dvd_add (Nat.dvd_mul_right ..) hrn
 have := Nat.dvd_gcd h5 hrn
 rw [hfar] at this
 have := Nat.le_of_dvd (by omega) this
 omega
theorem prod_dvd (m : Nat) : ∀ qs : List Nat, qs.Nodup → (∀ q ∈ qs, Pr q) → (∀ q ∈ qs, q ∣ m) → prodL qs ∣ m
 | [], _, _, _ => Nat.one_dvd m
 | q :: qs, hn, hp, hd => by
  have hn2 := List.nodup_cons.1 hn
  have ih := prod_dvd m qs hn2.2 (fun x hx => hp x (by simp [hx])) (fun x hx => hd x (by simp [hx]))
  have hq := hp q (by simp)
  have : ¬ q ∣ prodL qs := by
   refine prodL_cop hq qs fun x hx e => ?_
   rcases (hp x (by simp [hx])).2 q e with e | e
   ·have := hq.1; omega
   ·exact hn2.1 (e ▸ hx)
  exact Nat.Coprime.mul_dvd_of_dvd_of_dvd (hq.cop this) (hd q (by simp)) ih
theorem pock {n : Nat} (qs : List Nat) (hn : 2 ≤ n) (hnd : qs.Nodup) (hw : ∀ q ∈ qs, ∃ a, Wit n a q) (hF : n < (prodL qs + 1) * (prodL qs + 1)) : Pr n :=
 pr_of hn fun r hr hrn => by
  have hd := prod_dvd (r - 1) qs hnd (fun q hq => (hw q hq).elim fun _ h => h.pq) (fun q hq => (hw q hq).elim fun _ h => h.pred hr hrn hn)
  have hr2 := hr.1
  have := Nat.le_of_dvd (by omega) hd
  exact Nat.lt_of_lt_of_le hF (Nat.mul_le_mul (by omega) (by omega))
/-- A power modulo n, by halves of the exponent; each number is told before it is used. -/
def strict {β : Type} (n : Nat) (k : Nat → β) : β := Nat.casesOn (motive := fun _ => β) n (k 0) fun m => k (m + 1)
theorem strict_eq {β : Type} (n : Nat) (k : Nat → β) : strict n k = k n := by cases n <;> rfl
def pm (n : Nat) : Nat → Nat → Nat → Nat → Nat
 | 0, _, _, r => r
 | f + 1, b, e, r => strict (b * b % n) fun b' => strict (e / 2) fun e' => strict (if e % 2 = 1 then r * b % n else r) fun r' => pm n f b' e' r'
theorem pm_eq (n : Nat) : ∀ (f b e r : Nat), e < 2 ^ f → pm n f b e r % n = r * b ^ e % n
 | 0, b, e, r, h => by
  obtain rfl : e = 0 := by simpa using h
  simp [pm]
 | f + 1, b, e, r, h => by
  simp only [pm, strict_eq]
  rw [pm_eq n f _ _ _ (by rw [Nat.pow_succ] at h; omega)]
  have hb : (b * b % n) ^ (e / 2) % n = b ^ (2 * (e / 2)) % n := by
   rw [← Nat.pow_mod, Nat.pow_mul, Nat.pow_two]
  have h2 := Nat.div_add_mod e 2
  split
  ·rename_i h1
   rw [Nat.mul_mod, hb, Nat.mod_mod, ← Nat.mul_mod]
   congr 1
   rw [Nat.mul_assoc, ← Nat.pow_succ', show Nat.succ (2 * (e / 2)) = e by omega]
  ·rw [Nat.mul_mod, hb, ← Nat.mul_mod, show 2 * (e / 2) = e by omega]
theorem pm_pow {n f b e : Nat} (h : e < 2 ^ f) : pm n f b e 1 % n = b ^ e % n := by rw [pm_eq n f b e 1 h, Nat.one_mul]
theorem wit_of {n a q : Nat} (f : Nat) (hq : Pr q) (hn : 1 < n) (hd : (n - 1) % q = 0) (hf : n < 2 ^ f) (h1 : pm n f a (n - 1) 1 % n = 1) (h2 : Nat.gcd (pm n f a ((n - 1) / q) 1 % n + (n - 1)) n = 1) : Wit n a q := by
 refine ⟨hq, Nat.dvd_of_mod_eq_zero hd, ?_, ?_⟩
 ·rw [← pm_pow (f := f) (by omega)]; exact h1
 ·rw [← pm_pow (f := f) (Nat.lt_of_le_of_lt (Nat.div_le_self ..) (by omega))]; exact h2
end Go.Nt
