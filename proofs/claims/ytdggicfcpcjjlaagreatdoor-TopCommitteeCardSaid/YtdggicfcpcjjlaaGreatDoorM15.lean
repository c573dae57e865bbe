/- Part 15 of the texts below the row: Num1, Num2, Num3, Num4, Num5. -/
import Derived.Laws.Externs
import Derived.Lib.Mul64
import Derived.Test.YtdggicfcpcjjlaaGreatDoorM1
import Derived.Test.YtdggicfcpcjjlaaGreatDoorM11
import Derived.Test.YtdggicfcpcjjlaaGreatDoorM13
import Derived.Test.YtdggicfcpcjjlaaGreatDoorM14
/- Words: added, taken away, multiplied; numbers of four words. -/
set_option autoImplicit false
namespace Go.SL
def AddFn (P : Program) (f : Nat) : Prop := ∃ fn : Func, P.funcs[f]? = some fn ∧ (fn.name == "runtime.NumGoroutine") = false ∧ fn.body.isNone = true ∧ Extern.findNext fn = none ∧ Extern.find fn = some add64Entry
def sub64Entry : Array Value → Sem Value := fun args => do
 let (x, y, b) ← Extern.MathBitsCarry.three "Sub64" args
 pure (Extern.MathBitsCarry.pair ((x + Extern.MathBitsCarry.m64 - y - b) % Extern.MathBitsCarry.m64) (if x < y + b then 1 else 0))
def SubFn (P : Program) (f : Nat) : Prop := ∃ fn : Func, P.funcs[f]? = some fn ∧ (fn.name == "runtime.NumGoroutine") = false ∧ fn.body.isNone = true ∧ Extern.findNext fn = none ∧ Extern.find fn = some sub64Entry
section
variable {P : Program} {E : World} {n : Nat} {ρ : Env} {L : List HProp} {dst : Option Tmp} {ty : TypeId} {pos : String} {after : Array Edge} {g : Option (Nat × Bool)} {K : Value → List HProp → Prop} {f : Nat} {x y z : Operand} {ts : Array TypeId}
theorem O_add64 (a b c : Nat) (hf : AddFn P f) (hx : ρ.ev x = some (.int .u64 (a : Int))) (hy : ρ.ev y = some (.int .u64 (b : Int))) (hz : ρ.ev z = some (.int .u64 (c : Int))) (hc : c ≤ 1)
 (hK : K (.tuple #[.int .u64 (((a + b + c) % 18446744073709551616 : Nat) : Int), .int .u64 (((a + b + c) / 18446744073709551616 : Nat) : Int)]) L) : JOp P E n ⟨dst, .call ⟨.value (.func f), #[x, y, z], ts⟩, ty, pos, after, g⟩ K ρ L := fun c' w ha hs next Q hn => by
 obtain ⟨fn, h1, h2, h3, h4, h5⟩ := hf
 unfold Oper.wp
 simp only [execOp, resolve]
 have e1 : (Array.map c'.eval #[x, y, z]) = #[.int .u64 (a : Int), .int .u64 (b : Int), .int .u64 (c : Int)] := by simp [ha.ev hx, ha.ev hy, ha.ev hz]
 have e2 : c'.eval (.func f) = .func (.func f) #[] #[] := rfl
 simp only [e1, e2, Deferred.ofValue, run_bind_pure, invoke, Array.empty_append, Array.append_empty]
 rw [run_callFunc_extern h1 h2 h3 h4 h5, run_add64 a b c (by omega) (by omega) (by omega) (by omega)]
 simp only [Result.andThen_ok]
 have e3 : ((a : Int) + (b : Int) + (c : Int)) % 18446744073709551616 = (((a + b + c) % 18446744073709551616 : Nat) : Int) := by omega
 have e4 : ((a : Int) + (b : Int) + (c : Int)) / 18446744073709551616 = (((a + b + c) / 18446744073709551616 : Nat) : Int) := by omega
 rw [e3, e4]
 exact hn _ _ w hK hs
theorem run_sub64N (a b c : Nat) (hc : c ≤ 1) (w : World) : (sub64Entry #[.int .u64 (a : Int), .int .u64 (b : Int), .int .u64 (c : Int)]).run P w = .ok (.tuple #[.int .u64 (((a + 18446744073709551616 - b - c) % 18446744073709551616 : Nat) : Int), .int .u64 ((if a < b + c then 1 else 0 : Nat) : Int)]) w := by
 have : c = 0 ∨ c = 1 := by omega
 rcases this with rfl | rfl <;> rfl
theorem O_sub64 (a b c : Nat) (hf : SubFn P f) (hx : ρ.ev x = some (.int .u64 (a : Int))) (hy : ρ.ev y = some (.int .u64 (b : Int))) (hz : ρ.ev z = some (.int .u64 (c : Int))) (hc : c ≤ 1)
 (hK : K (.tuple #[.int .u64 (((a + 18446744073709551616 - b - c) % 18446744073709551616 : Nat) : Int), .int .u64 ((if a < b + c then 1 else 0 : Nat) : Int)]) L) : JOp P E n ⟨dst, .call ⟨.value (.func f), #[x, y, z], ts⟩, ty, pos, after, g⟩ K ρ L := fun c' w ha hs next Q hn => by
 obtain ⟨fn, h1, h2, h3, h4, h5⟩ := hf
 unfold Oper.wp
 simp only [execOp, resolve]
 have e1 : (Array.map c'.eval #[x, y, z]) = #[.int .u64 (a : Int), .int .u64 (b : Int), .int .u64 (c : Int)] := by simp [ha.ev hx, ha.ev hy, ha.ev hz]
 have e2 : c'.eval (.func f) = .func (.func f) #[] #[] := rfl
 simp only [e1, e2, Deferred.ofValue, run_bind_pure, invoke, Array.empty_append, Array.append_empty]
 rw [run_callFunc_extern h1 h2 h3 h4 h5, run_sub64N a b c hc]
 simp only [Result.andThen_ok]
 exact hn _ _ w hK hs
variable {t t' : Nat} {k' : IntKind} {za zb : Int}
theorem Q_add6 (a b : Nat) (hx : ρ.ev x = some (.int .u64 (a : Int))) (hy : ρ.ev y = some (.int .u64 (b : Int))) (h : a + b < 18446744073709551616) : QOp P E n ⟨dst, .binOp .add t x y t', ty, pos, after, g⟩ ρ L (.int .u64 ((a + b : Nat) : Int)) :=
 Q_add hx hy (by rw [← Int.natCast_add]; exact wrap_lt .u64 _ h)
theorem Q_mul6 (a b : Nat) (hx : ρ.ev x = some (.int .u64 (a : Int))) (hy : ρ.ev y = some (.int .u64 (b : Int))) (h : a * b < 18446744073709551616) : QOp P E n ⟨dst, .binOp .mul t x y t', ty, pos, after, g⟩ ρ L (.int .u64 ((a * b : Nat) : Int)) :=
 Q_mul hx hy (by rw [← Int.natCast_mul]; exact wrap_lt .u64 _ h)
theorem Q_mul6w (a b : Nat) (hx : ρ.ev x = some (.int .u64 (a : Int))) (hy : ρ.ev y = some (.int .u64 (b : Int))) : QOp P E n ⟨dst, .binOp .mul t x y t', ty, pos, after, g⟩ ρ L (.int .u64 ((a * b % 18446744073709551616 : Nat) : Int)) :=
 Q_mul hx hy (by rw [← Int.natCast_mul]; exact wrapN .u64 _)
theorem Q_shr6 (a j q : Nat) (hx : ρ.ev x = some (.int .u64 (a : Int))) (hy : ρ.ev y = some (.int k' (j : Int))) (hj : j ≤ 64) (hq : 2 ^ j = q) : QOp P E n ⟨dst, .binOp .shr t x y t', ty, pos, after, g⟩ ρ L (.int .u64 ((a / q : Nat) : Int)) := by
 subst hq
 exact Q_shrN a j hx hy rfl rfl hj
theorem Q_mask32 (a : Nat) (hx : ρ.ev x = some (.int .u64 (a : Int))) (hy : ρ.ev y = some (.int .u64 4294967295)) (h : a < 18446744073709551616) : QOp P E n ⟨dst, .binOp .and t x y t', ty, pos, after, g⟩ ρ L (.int .u64 ((a % 4294967296 : Nat) : Int)) := by
 have := Q_andN (P := P) (E := E) (n := n) (L := L) (dst := dst) (ty := ty) (pos := pos) (after := after) (g := g) (t := t) (t' := t') a 4294967295 hx hy rfl rfl h (by decide)
 rwa [show a &&& 4294967295 = a % 4294967296 from Nat.and_two_pow_sub_one_eq_mod a 32] at this
end
end Go.SL
namespace Go.Proofs
open Go.SL
theorem addFn : AddFn Tryz.prog 189 := ⟨_, Tryz.func189, by kernel_rfl, by kernel_rfl, by kernel_rfl, by kernel_rfl⟩
theorem subFn : SubFn Tryz.prog 190 := ⟨_, Tryz.func190, by kernel_rfl, by kernel_rfl, by kernel_rfl, by kernel_rfl⟩
attribute [local irreducible] J JL QOp JOp seqQ blockQ loopQ retQ slc cel hex star pur stars Does RV Ent pAt scopeQ
theorem mul64_ok (E : World) (x y : Nat) (hx : x < 18446744073709551616) (hy : y < 18446744073709551616) : Does Tryz.prog E 203 [.int .u64 (x : Int), .int .u64 (y : Int)] [] fun r L => r = .tuple #[.int .u64 ((x * y / 18446744073709551616 : Nat) : Int), .int .u64 ((x * y % 18446744073709551616 : Nat) : Int)] ∧ L = [] := by
 obtain ⟨bd, bt, bw, hhi⟩ := Lib.mul64_hi x y hx hy
 have ba := Lib.half_mul_le (a := x / 4294967296) (b := y / 4294967296) (by omega) (by omega)
 have bb := Lib.half_mul_le (a := x / 4294967296) (b := y % 4294967296) (by omega) (by omega)
 have bc := Lib.half_mul_le (a := x % 4294967296) (b := y / 4294967296) (by omega) (by omega)
 refine Does.of Tryz.func203 rfl Tryz.ntmps203 rfl rfl fun F => ?_
 refine Xb ?_
 refine Xam ?_
 refine Lq (Q_mask32 x rfl rfl hx) ?_
 refine Xx ?_
 refine Lq (Q_shr6 x 32 4294967296 rfl rfl (by decide) rfl) ?_
 refine Xx ?_
 refine Lq (Q_mask32 y rfl rfl hy) ?_
 refine Xx ?_
 refine Lq (Q_shr6 y 32 4294967296 rfl rfl (by decide) rfl) ?_
 refine XT ?_
 refine Lq (Q_mul6 (x % 4294967296) (y % 4294967296) rfl rfl bd) ?_
 refine XT ?_
 refine Lq (Q_mul6 (x / 4294967296) (y % 4294967296) rfl rfl (by omega)) ?_
 refine Xd ?_
 refine Lq (Q_shr6 (x % 4294967296 * (y % 4294967296)) 32 4294967296 rfl rfl (by decide) rfl) ?_
 refine Lq (Q_add6 _ _ rfl rfl bt) ?_
 refine Xx ?_
 refine Lq (Q_mask32 _ rfl rfl bt) ?_
 refine Xx ?_
 refine Lq (Q_shr6 _ 32 4294967296 rfl rfl (by decide) rfl) ?_
 refine Xx ?_
 refine Xf ?_
 refine Lq (Q_mul6 (x % 4294967296) (y / 4294967296) rfl rfl (by omega)) ?_
 refine Lq (Q_add6 _ _ rfl rfl bw) ?_
 refine XT ?_
 refine Lq (Q_mul6 (x / 4294967296) (y / 4294967296) rfl rfl (by omega)) ?_
 refine Xd ?_
 refine Lq (Q_add6 _ _ rfl rfl (by omega)) ?_
 refine Xd ?_
 refine Lq (Q_shr6 _ 32 4294967296 rfl rfl (by decide) rfl) ?_
 refine Lq (Q_add6 _ _ rfl rfl (by omega)) ?_
 refine XT ?_
 refine Lq (Q_mul6w x y rfl rfl) ?_
 refine Xq ?_
 exact retQ_ret _ [] (.cons (RV_tmp rfl) (.cons (RV_tmp rfl) .nil)) ⟨by rw [← hhi]; rfl, rfl⟩ (Ent.refl _)
end Go.Proofs
/- Numbers of four words: sums and differences. -/
set_option autoImplicit false
namespace Go.Proofs
open Go.SL
abbrev u64 (n : Nat) : Value := .int .u64 (n : Int)
structure W4 where
 a : Nat
 b : Nat
 c : Nat
 d : Nat
 deriving DecidableEq
abbrev W4.l (x : W4) : List Value := [u64 x.a, u64 x.b, u64 x.c, u64 x.d]
abbrev W4.v (x : W4) : Value := .agg x.l.toArray
structure W4.ok (x : W4) : Prop where
 a : x.a < 18446744073709551616
 b : x.b < 18446744073709551616
 c : x.c < 18446744073709551616
 d : x.d < 18446744073709551616
abbrev adC (x y c : Nat) : Nat := (x + y + c) / 18446744073709551616
abbrev adS (x y c : Nat) : Nat := (x + y + c) % 18446744073709551616
def addC (x y : W4) : Nat → Nat
 | 0 => 0
 | 1 => adC x.a y.a 0
 | 2 => adC x.b y.b (adC x.a y.a 0)
 | 3 => adC x.c y.c (adC x.b y.b (adC x.a y.a 0))
 | _ => adC x.d y.d (adC x.c y.c (adC x.b y.b (adC x.a y.a 0)))
def addW (x y : W4) : W4 := ⟨adS x.a y.a 0, adS x.b y.b (addC x y 1), adS x.c y.c (addC x y 2), adS x.d y.d (addC x y 3)⟩
def frst (x : W4) : Nat → W4
 | 0 => ⟨0, 0, 0, 0⟩
 | 1 => ⟨x.a, 0, 0, 0⟩
 | 2 => ⟨x.a, x.b, 0, 0⟩
 | 3 => ⟨x.a, x.b, x.c, 0⟩
 | _ => x
theorem adC_le {x y c : Nat} (hx : x < 18446744073709551616) (hy : y < 18446744073709551616) (hc : c ≤ 1) : adC x y c ≤ 1 := by unfold adC; omega
abbrev sbC (x y c : Nat) : Nat := if x < y + c then 1 else 0
abbrev sbS (x y c : Nat) : Nat := (x + 18446744073709551616 - y - c) % 18446744073709551616
def subC (x y : W4) : Nat → Nat
 | 0 => 0
 | 1 => sbC x.a y.a 0
 | 2 => sbC x.b y.b (sbC x.a y.a 0)
 | 3 => sbC x.c y.c (sbC x.b y.b (sbC x.a y.a 0))
 | _ => sbC x.d y.d (sbC x.c y.c (sbC x.b y.b (sbC x.a y.a 0)))
def subW (x y : W4) : W4 := ⟨sbS x.a y.a 0, sbS x.b y.b (subC x y 1), sbS x.c y.c (subC x y 2), sbS x.d y.d (subC x y 3)⟩
theorem sbC_le (x y c : Nat) : sbC x y c ≤ 1 := by unfold sbC; split <;> omega
attribute [local irreducible] J JL QOp JOp seqQ blockQ loopQ retQ slc cel hex star pur stars Does RV Ent pAt scopeQ
theorem ladd_ok (E : World) (x y : W4) (hx : x.ok) (hy : y.ok) : Does Tryz.prog E 150 [x.v, y.v] [] fun r L => r = .tuple #[(addW x y).v, .bool (decide (addC x y 4 = 1))] ∧ L = [] := by
 obtain ⟨a, b, c, d⟩ := x
 obtain ⟨a', b', c', d'⟩ := y
 have c1 : adC a a' 0 ≤ 1 := adC_le hx.a hy.a (by decide)
 have c2 : adC b b' (adC a a' 0) ≤ 1 := adC_le hx.b hy.b c1
 have c3 : adC c c' (adC b b' (adC a a' 0)) ≤ 1 := adC_le hx.c hy.c c2
 refine Does.of Tryz.func150 rfl Tryz.ntmps150 rfl rfl fun F => ?_
 refine Xb ?_
 refine L_o rfl rfl rfl (O_box rfl fun b2 => ?_)
 refine L_o rfl rfl rfl (O_box rfl fun b3 => ?_)
 refine L_o rfl rfl rfl (O_alloc fun b4 => ?_)
 refine XC ?_
 refine L_o rfl rfl rfl (O_alloc fun b6 => ?_)
 refine Xby ?_
 refine XA ?_
 refine XP ?_
 refine J_loop (fun i : Nat => i ≤ 4) (fun i => [(2, .pointer (some ⟨b2, 0, none⟩)), (3, .pointer (some ⟨b3, 0, none⟩)), (4, .pointer (some ⟨b4, 0, none⟩)), (6, .pointer (some ⟨b6, 0, none⟩)), (7, u64 (addC ⟨a, b, c, d⟩ ⟨a', b', c', d'⟩ i)), (9, .int .i64 (i : Int))]) (fun i => [cel b6 (frst (addW ⟨a, b, c, d⟩ ⟨a', b', c', d'⟩) i).l 24, cel b4 [u64 0, u64 0, u64 0, u64 0] 24, cel b3 [u64 a', u64 b', u64 c', u64 d'] 24, cel b2 [u64 a, u64 b, u64 c, u64 d] 24, F]) (fun i => 4 - i) 0 (Nat.zero_le _) ⟨rfl, rfl, rfl, rfl, rfl, rfl, trivial⟩ (Ent.refl _) ?_
 intro i hi
 match i, hi with
 | 0, _ =>
  refine Xal ?_
  refine Xi ?_
  refine Xcc ?_
  refine XcO ?_
  refine Xb4 ?_
  refine XcO ?_
  refine Xb5 ?_
  refine S_o rfl rfl rfl rfl (O_add64 a a' (addC ⟨a, b, c, d⟩ ⟨a', b', c', d'⟩ 0) addFn rfl rfl rfl (Nat.zero_le _) ⟨_, fun _ => ⟨Ent.reN [3,2] rfl, Ent.refl _⟩, ?_⟩)
  refine Xca ?_
  refine Xb3 ?_
  refine XcO ?_
  refine S_s rfl rfl rfl (O_st1 0 rfl rfl rfl rfl rfl ⟨_, fun _ => ⟨Ent.reN [3,2] rfl, Ent.refl _⟩, ?_⟩)
  refine Xb9 ?_
  refine S_nil ?_
  exact XeC
 | 1, _ =>
  refine Xal ?_
  refine Xi ?_
  refine Xcc ?_
  refine XcP ?_
  refine Xb4 ?_
  refine XcP ?_
  refine Xb5 ?_
  refine S_o rfl rfl rfl rfl (O_add64 b b' (addC ⟨a, b, c, d⟩ ⟨a', b', c', d'⟩ 1) addFn rfl rfl rfl c1 ⟨_, fun _ => ⟨Ent.reN [3,2] rfl, Ent.refl _⟩, ?_⟩)
  refine Xca ?_
  refine Xb3 ?_
  refine XcP ?_
  refine S_s rfl rfl rfl (O_st1 0 rfl rfl rfl rfl rfl ⟨_, fun _ => ⟨Ent.reN [3,2] rfl, Ent.refl _⟩, ?_⟩)
  refine Xb9 ?_
  refine S_nil ?_
  exact XeD
 | 2, _ =>
  refine Xal ?_
  refine Xi ?_
  refine Xcc ?_
  refine XcQ ?_
  refine Xb4 ?_
  refine XcQ ?_
  refine Xb5 ?_
  refine S_o rfl rfl rfl rfl (O_add64 c c' (addC ⟨a, b, c, d⟩ ⟨a', b', c', d'⟩ 2) addFn rfl rfl rfl c2 ⟨_, fun _ => ⟨Ent.reN [3,2] rfl, Ent.refl _⟩, ?_⟩)
  refine Xca ?_
  refine Xb3 ?_
  refine XcQ ?_
  refine S_s rfl rfl rfl (O_st1 0 rfl rfl rfl rfl rfl ⟨_, fun _ => ⟨Ent.reN [3,2] rfl, Ent.refl _⟩, ?_⟩)
  refine Xb9 ?_
  refine S_nil ?_
  exact XeE
 | 3, _ =>
  refine Xal ?_
  refine Xi ?_
  refine Xcc ?_
  refine XcR ?_
  refine Xb4 ?_
  refine XcR ?_
  refine Xb5 ?_
  refine S_o rfl rfl rfl rfl (O_add64 d d' (addC ⟨a, b, c, d⟩ ⟨a', b', c', d'⟩ 3) addFn rfl rfl rfl c3 ⟨_, fun _ => ⟨Ent.reN [3,2] rfl, Ent.refl _⟩, ?_⟩)
  refine Xca ?_
  refine Xb3 ?_
  refine XcR ?_
  refine S_s rfl rfl rfl (O_st1 0 rfl rfl rfl rfl rfl ⟨_, fun _ => ⟨Ent.reN [3,2] rfl, Ent.refl _⟩, ?_⟩)
  refine Xb9 ?_
  refine S_nil ?_
  exact XeF
 | 4, _ =>
  refine Xbb ?_
  refine Xo ?_
  refine Xd ?_
  refine Lq ((Q_eql rfl rfl).as (v' := .bool (decide (addC ⟨a, b, c, d⟩ ⟨a', b', c', d'⟩ 4 = 1))) (congrArg Value.bool (decide_eq_decide.2 (by omega)))) ?_
  refine Xcx ?_
  exact Xfw
theorem lsub_ok (E : World) (x y : W4) (hx : x.ok) (hy : y.ok) : Does Tryz.prog E 151 [x.v, y.v] [] fun r L => r = .tuple #[(subW x y).v, .bool (decide (subC x y 4 = 1))] ∧ L = [] := by
 obtain ⟨a, b, c, d⟩ := x
 obtain ⟨a', b', c', d'⟩ := y
 have c1 : sbC a a' 0 ≤ 1 := sbC_le a a' 0
 have c2 : sbC b b' (sbC a a' 0) ≤ 1 := sbC_le ..
 have c3 : sbC c c' (sbC b b' (sbC a a' 0)) ≤ 1 := sbC_le ..
 refine Does.of Tryz.func151 rfl Tryz.ntmps151 rfl rfl fun F => ?_
 refine Xb ?_
 refine L_o rfl rfl rfl (O_box rfl fun b2 => ?_)
 refine L_o rfl rfl rfl (O_box rfl fun b3 => ?_)
 refine L_o rfl rfl rfl (O_alloc fun b4 => ?_)
 refine XC ?_
 refine L_o rfl rfl rfl (O_alloc fun b6 => ?_)
 refine Xby ?_
 refine XA ?_
 refine XP ?_
 refine J_loop (fun i : Nat => i ≤ 4) (fun i => [(2, .pointer (some ⟨b2, 0, none⟩)), (3, .pointer (some ⟨b3, 0, none⟩)), (4, .pointer (some ⟨b4, 0, none⟩)), (6, .pointer (some ⟨b6, 0, none⟩)), (7, u64 (subC ⟨a, b, c, d⟩ ⟨a', b', c', d'⟩ i)), (9, .int .i64 (i : Int))]) (fun i => [cel b6 (frst (subW ⟨a, b, c, d⟩ ⟨a', b', c', d'⟩) i).l 24, cel b4 [u64 0, u64 0, u64 0, u64 0] 24, cel b3 [u64 a', u64 b', u64 c', u64 d'] 24, cel b2 [u64 a, u64 b, u64 c, u64 d] 24, F]) (fun i => 4 - i) 0 (Nat.zero_le _) ⟨rfl, rfl, rfl, rfl, rfl, rfl, trivial⟩ (Ent.refl _) ?_
 intro i hi
 match i, hi with
 | 0, _ =>
  refine Xal ?_
  refine Xi ?_
  refine Xcc ?_
  refine XcO ?_
  refine Xb4 ?_
  refine XcO ?_
  refine Xb5 ?_
  refine S_o rfl rfl rfl rfl (O_sub64 a a' (subC ⟨a, b, c, d⟩ ⟨a', b', c', d'⟩ 0) subFn rfl rfl rfl (Nat.zero_le _) ⟨_, fun _ => ⟨Ent.reN [3,2] rfl, Ent.refl _⟩, ?_⟩)
  refine Xca ?_
  refine Xb3 ?_
  refine XcO ?_
  refine S_s rfl rfl rfl (O_st1 0 rfl rfl rfl rfl rfl ⟨_, fun _ => ⟨Ent.reN [3,2] rfl, Ent.refl _⟩, ?_⟩)
  refine Xb9 ?_
  refine S_nil ?_
  exact XeC
 | 1, _ =>
  refine Xal ?_
  refine Xi ?_
  refine Xcc ?_
  refine XcP ?_
  refine Xb4 ?_
  refine XcP ?_
  refine Xb5 ?_
  refine S_o rfl rfl rfl rfl (O_sub64 b b' (subC ⟨a, b, c, d⟩ ⟨a', b', c', d'⟩ 1) subFn rfl rfl rfl c1 ⟨_, fun _ => ⟨Ent.reN [3,2] rfl, Ent.refl _⟩, ?_⟩)
  refine Xca ?_
  refine Xb3 ?_
  refine XcP ?_
  refine S_s rfl rfl rfl (O_st1 0 rfl rfl rfl rfl rfl ⟨_, fun _ => ⟨Ent.reN [3,2] rfl, Ent.refl _⟩, ?_⟩)
  refine Xb9 ?_
  refine S_nil ?_
  exact XeD
 | 2, _ =>
  refine Xal ?_
  refine Xi ?_
  refine Xcc ?_
  refine XcQ ?_
  refine Xb4 ?_
  refine XcQ ?_
  refine Xb5 ?_
  refine S_o rfl rfl rfl rfl (O_sub64 c c' (subC ⟨a, b, c, d⟩ ⟨a', b', c', d'⟩ 2) subFn rfl rfl rfl c2 ⟨_, fun _ => ⟨Ent.reN [3,2] rfl, Ent.refl _⟩, ?_⟩)
  refine Xca ?_
  refine Xb3 ?_
  refine XcQ ?_
  refine S_s rfl rfl rfl (O_st1 0 rfl rfl rfl rfl rfl ⟨_, fun _ => ⟨Ent.reN [3,2] rfl, Ent.refl _⟩, ?_⟩)
  refine Xb9 ?_
  refine S_nil ?_
  exact XeE
 | 3, _ =>
  refine Xal ?_
  refine Xi ?_
  refine Xcc ?_
  refine XcR ?_
  refine Xb4 ?_
  refine XcR ?_
  refine Xb5 ?_
  refine S_o rfl rfl rfl rfl (O_sub64 d d' (subC ⟨a, b, c, d⟩ ⟨a', b', c', d'⟩ 3) subFn rfl rfl rfl c3 ⟨_, fun _ => ⟨Ent.reN [3,2] rfl, Ent.refl _⟩, ?_⟩)
  refine Xca ?_
  refine Xb3 ?_
  refine XcR ?_
  refine S_s rfl rfl rfl (O_st1 0 rfl rfl rfl rfl rfl ⟨_, fun _ => ⟨Ent.reN [3,2] rfl, Ent.refl _⟩, ?_⟩)
  refine Xb9 ?_
  refine S_nil ?_
  exact XeF
 | 4, _ =>
  refine Xbb ?_
  refine Xo ?_
  refine Xd ?_
  refine Lq ((Q_eql rfl rfl).as (v' := .bool (decide (subC ⟨a, b, c, d⟩ ⟨a', b', c', d'⟩ 4 = 1))) (congrArg Value.bool (decide_eq_decide.2 (by omega)))) ?_
  refine Xcx ?_
  exact Xfw
end Go.Proofs
/- Numbers of four words, as natural ones. -/
set_option autoImplicit false
namespace Go.Proofs
open Go.SL
def W4.n (x : W4) : Nat := x.a + 18446744073709551616 * x.b + 340282366920938463463374607431768211456 * x.c + 6277101735386680763835789423207666416102355444464034512896 * x.d
def W4.of (n : Nat) : W4 := ⟨n % 18446744073709551616, n / 18446744073709551616 % 18446744073709551616, n / 340282366920938463463374607431768211456 % 18446744073709551616, n / 6277101735386680763835789423207666416102355444464034512896 % 18446744073709551616⟩
theorem W4.of_ok (n : Nat) : (W4.of n).ok := by unfold W4.of; constructor <;> dsimp only <;> omega
theorem W4.lt {x : W4} (h : x.ok) : x.n < 115792089237316195423570985008687907853269984665640564039457584007913129639936 := by
 have h1 := h.a; have h2 := h.b; have h3 := h.c; have h4 := h.d
 unfold W4.n; omega
theorem W4.inj {x y : W4} (hx : x.ok) (hy : y.ok) (h : x.n = y.n) : x = y := by
 have h1 := hx.a; have h2 := hx.b; have h3 := hx.c; have h4 := hx.d
 have k1 := hy.a; have k2 := hy.b; have k3 := hy.c; have k4 := hy.d
 obtain ⟨a, b, c, d⟩ := x
 obtain ⟨a', b', c', d'⟩ := y
 unfold W4.n at h
 dsimp only at *
 obtain rfl : a = a' := by omega
 obtain rfl : b = b' := by omega
 obtain rfl : c = c' := by omega
 obtain rfl : d = d' := by omega
 rfl
theorem W4.n_of {n : Nat} (h : n < 115792089237316195423570985008687907853269984665640564039457584007913129639936) : (W4.of n).n = n := by
 unfold W4.of W4.n; dsimp only; omega
theorem W4.of_n {x : W4} (h : x.ok) : W4.of x.n = x := W4.inj (W4.of_ok _) h (W4.n_of (W4.lt h))
theorem addW_ok (x y : W4) : (addW x y).ok := by
 unfold addW; constructor <;> dsimp only <;> exact Nat.mod_lt _ (by decide)
theorem subW_ok (x y : W4) : (subW x y).ok := by
 unfold subW; constructor <;> dsimp only <;> exact Nat.mod_lt _ (by decide)
theorem addW_n (x y : W4) : (addW x y).n + 115792089237316195423570985008687907853269984665640564039457584007913129639936 * addC x y 4 = x.n + y.n := by
 obtain ⟨a, b, c, d⟩ := x
 obtain ⟨a', b', c', d'⟩ := y
 simp only [addW, addC, W4.n, adC, adS]
 generalize e1 : (a + a' + 0) / 18446744073709551616 = c1
 generalize e2 : (b + b' + c1) / 18446744073709551616 = c2
 generalize e3 : (c + c' + c2) / 18446744073709551616 = c3
 omega
theorem subW_n {x y : W4} (hx : x.ok) (hy : y.ok) : (subW x y).n + y.n = x.n + 115792089237316195423570985008687907853269984665640564039457584007913129639936 * subC x y 4 := by
 have h1 := hx.a; have h2 := hx.b; have h3 := hx.c; have h4 := hx.d
 have k1 := hy.a; have k2 := hy.b; have k3 := hy.c; have k4 := hy.d
 obtain ⟨a, b, c, d⟩ := x
 obtain ⟨a', b', c', d'⟩ := y
 simp only [subW, subC, W4.n, sbS]
 dsimp only at h1 h2 h3 h4 k1 k2 k3 k4
 have key : ∀ u v w : Nat, u < 18446744073709551616 → v < 18446744073709551616 → w ≤ 1 → (u + 18446744073709551616 - v - w) % 18446744073709551616 + v + w = u + 18446744073709551616 * sbC u v w := by
  intro u v w hu hv hw
  unfold sbC; split <;> omega
 have g1 := key a a' 0 h1 k1 (by decide)
 have g2 := key b b' _ h2 k2 (sbC_le a a' 0)
 have g3 := key c c' _ h3 k3 (sbC_le b b' (sbC a a' 0))
 have g4 := key d d' _ h4 k4 (sbC_le c c' (sbC b b' (sbC a a' 0)))
 generalize sbC a a' 0 = c1 at *
 generalize sbC b b' c1 = c2 at *
 generalize sbC c c' c2 = c3 at *
 generalize sbC d d' c3 = c4 at *
 omega
theorem subC_lt {x y : W4} (hx : x.ok) (hy : y.ok) : decide (subC x y 4 = 1) = decide (x.n < y.n) := by
 have h := subW_n hx hy
 have h1 := W4.lt (subW_ok x y)
 have h2 := W4.lt hx
 have h3 := W4.lt hy
 have h4 : subC x y 4 ≤ 1 := sbC_le ..
 exact decide_eq_decide.2 (by omega)
theorem addC_le {x y : W4} (hx : x.ok) (hy : y.ok) : decide (addC x y 4 = 1) = decide (115792089237316195423570985008687907853269984665640564039457584007913129639936 ≤ x.n + y.n) := by
 have h := addW_n x y
 have h1 := W4.lt (addW_ok x y)
 have h2 := W4.lt hx
 have h3 := W4.lt hy
 exact decide_eq_decide.2 (by omega)
end Go.Proofs
/- Numbers modulo an odd one: sums, differences. -/
set_option autoImplicit false
namespace Go.Proofs
open Go.SL
/-- A modulus, as it lies. -/
abbrev modL (m : W4) (N : Nat) (rr : W4) : List Value := [u64 m.a, u64 m.b, u64 m.c, u64 m.d, u64 N, u64 rr.a, u64 rr.b, u64 rr.c, u64 rr.d]
abbrev modV (m : W4) (N : Nat) (rr : W4) : Value := .agg (modL m N rr).toArray
theorem of_eq {s : W4} {n : Nat} (h : s.ok) (e : s.n = n) : s = W4.of n := by rw [← e, W4.of_n h]
attribute [local irreducible] J JL QOp JOp seqQ blockQ loopQ retQ slc cel hex star pur stars Does RV Ent pAt scopeQ
section
variable (E : World) (m rr : W4) (N : Nat) (hm : m.ok)
include hm
theorem mvalid_ok (x : W4) (hx : x.ok) : Does Tryz.prog E 123 [modV m N rr, x.v] [] fun r L => r = .bool (decide (x.n < m.n)) ∧ L = [] := by
 have hb := lsub_ok E x m hx hm
 rw [subC_lt hx hm] at hb
 refine Does.of Tryz.func123 rfl Tryz.ntmps123 rfl rfl fun F => ?_
 refine Xb ?_
 refine L_o rfl rfl rfl (O_box rfl fun b2 => ?_)
 refine L_o rfl rfl rfl (O_box rfl fun b3 => ?_)
 refine Xi ?_
 refine Xo ?_
 refine XD ?_
 refine XI ?_
 refine L_o rfl rfl rfl (O_call [] [0,1,2] hb rfl rfl ?_)
 rintro _ _ ⟨rfl, rfl⟩
 refine XaO ?_
 refine Lq (Q_extract (v := (subW x m).v) rfl rfl) ?_
 refine Lq (Q_extract (v := .bool (decide (x.n < m.n))) rfl rfl) ?_
 refine L_o rfl rfl rfl (O_alloc fun b5 => ?_)
 refine Xz ?_
 refine Xx ?_
 exact Xes
theorem madd_ok (x y : W4) (hx : x.ok) (hy : y.ok) (h1 : x.n < m.n) (h2 : y.n < m.n) : Does Tryz.prog E 96 [modV m N rr, x.v, y.v] [] fun r L => r = (W4.of ((x.n + y.n) % m.n)).v ∧ L = [] := by
 have ha := ladd_ok E x y hx hy
 rw [addC_le hx hy] at ha
 have hb := lsub_ok E (addW x y) m (addW_ok x y) hm
 rw [subC_lt (addW_ok x y) hm] at hb
 have e1 := addW_n x y
 have e2 := subW_n (addW_ok x y) hm
 have l1 := W4.lt (addW_ok x y)
 have l2 := W4.lt hm
 have l3 := W4.lt (subW_ok (addW x y) m)
 have o1 := addW_ok x y
 have o2 := subW_ok (addW x y) m
 have c1 : subC (addW x y) m 4 ≤ 1 := sbC_le ..
 generalize addC x y 4 = cy at *
 generalize subC (addW x y) m 4 = cz at *
 generalize subW (addW x y) m = d at *
 generalize addW x y = s at *
 by_cases q1 : 115792089237316195423570985008687907853269984665640564039457584007913129639936 ≤ x.n + y.n
 ·rw [decide_eq_true q1] at ha
  have hr : d = W4.of ((x.n + y.n) % m.n) := of_eq o2 (by rw [Nat.mod_eq_sub_mod (by omega), Nat.mod_eq_of_lt (by omega)]; omega)
  rw [← hr]
  refine Does.of Tryz.func96 rfl Tryz.ntmps96 rfl rfl fun F => ?_
  refine Xb ?_
  refine L_o rfl rfl rfl (O_box rfl fun b3 => ?_)
  refine L_o rfl rfl rfl (O_box rfl fun b4 => ?_)
  refine L_o rfl rfl rfl (O_box rfl fun b5 => ?_)
  refine L_o rfl rfl rfl (O_alloc fun b6 => ?_)
  refine Ln ?_
  refine Xdq ?_
  rintro _ _ ⟨rfl, rfl⟩
  refine Xeb ?_
  refine L_o rfl rfl rfl (O_alloc fun b7 => ?_)
  refine Xz ?_
  refine Xi ?_
  refine Xo ?_
  refine XD ?_
  refine Xd1 ?_
  rintro _ _ ⟨rfl, rfl⟩
  refine Xcu ?_
  refine Lq (Q_extract (v := .bool (decide (s.n < m.n))) rfl rfl) ?_
  refine L_o rfl rfl rfl (O_alloc fun b9 => ?_)
  refine Xz ?_
  refine Xn ?_
  refine Xv ?_
  refine Xa7 ?_
  refine XaP ?_
  refine Xo ?_
  refine XbW ?_
  refine Xr ?_
  refine Xa1 ?_
  exact Xe6
 ·rw [decide_eq_false q1] at ha
  by_cases q2 : s.n < m.n
  ·rw [decide_eq_true q2] at hb
   have hr : s = W4.of ((x.n + y.n) % m.n) := of_eq o1 (by rw [Nat.mod_eq_of_lt (by omega)]; omega)
   rw [← hr]
   refine Does.of Tryz.func96 rfl Tryz.ntmps96 rfl rfl fun F => ?_
   refine Xb ?_
   refine L_o rfl rfl rfl (O_box rfl fun b3 => ?_)
   refine L_o rfl rfl rfl (O_box rfl fun b4 => ?_)
   refine L_o rfl rfl rfl (O_box rfl fun b5 => ?_)
   refine L_o rfl rfl rfl (O_alloc fun b6 => ?_)
   refine Ln ?_
   refine Xdq ?_
   rintro _ _ ⟨rfl, rfl⟩
   refine Xds ?_
   refine L_o rfl rfl rfl (O_alloc fun b7 => ?_)
   refine Xz ?_
   refine Xi ?_
   refine Xo ?_
   refine XD ?_
   refine Xd1 ?_
   rintro _ _ ⟨rfl, rfl⟩
   refine Xcu ?_
   refine Lq (Q_extract (v := .bool (true)) rfl rfl) ?_
   refine L_o rfl rfl rfl (O_alloc fun b9 => ?_)
   refine Xz ?_
   refine XA ?_
   refine Xf ?_
   refine Lq ((Q_not rfl).as (v' := .bool false) rfl) ?_
   refine Xan ?_
   refine XM ?_
   refine XbW ?_
   refine Xr ?_
   refine J_ret ?_
   exact Xe6
  ·rw [decide_eq_false q2] at hb
   have hr : d = W4.of ((x.n + y.n) % m.n) := of_eq o2 (by rw [Nat.mod_eq_sub_mod (by omega), Nat.mod_eq_of_lt (by omega)]; omega)
   rw [← hr]
   refine Does.of Tryz.func96 rfl Tryz.ntmps96 rfl rfl fun F => ?_
   refine Xb ?_
   refine L_o rfl rfl rfl (O_box rfl fun b3 => ?_)
   refine L_o rfl rfl rfl (O_box rfl fun b4 => ?_)
   refine L_o rfl rfl rfl (O_box rfl fun b5 => ?_)
   refine L_o rfl rfl rfl (O_alloc fun b6 => ?_)
   refine Ln ?_
   refine Xdq ?_
   rintro _ _ ⟨rfl, rfl⟩
   refine Xds ?_
   refine L_o rfl rfl rfl (O_alloc fun b7 => ?_)
   refine Xz ?_
   refine Xi ?_
   refine Xo ?_
   refine XD ?_
   refine Xd1 ?_
   rintro _ _ ⟨rfl, rfl⟩
   refine Xcu ?_
   refine Lq (Q_extract (v := .bool (false)) rfl rfl) ?_
   refine L_o rfl rfl rfl (O_alloc fun b9 => ?_)
   refine Xz ?_
   refine XA ?_
   refine Xf ?_
   refine Lq ((Q_not rfl).as (v' := .bool true) rfl) ?_
   refine Xp ?_
   refine Xm ?_
   refine Xo ?_
   refine XbW ?_
   refine Xr ?_
   refine Xa1 ?_
   exact Xe6
end
end Go.Proofs
/- Numbers modulo an odd one: differences; cut. -/
set_option autoImplicit false
namespace Go.Proofs
open Go.SL
attribute [local irreducible] J JL QOp JOp seqQ blockQ loopQ retQ slc cel hex star pur stars Does RV Ent pAt scopeQ
section
variable (E : World) (m rr : W4) (N : Nat) (hm : m.ok)
include hm
theorem msub_ok (x y : W4) (hx : x.ok) (hy : y.ok) (h1 : x.n < m.n) (h2 : y.n < m.n) : Does Tryz.prog E 153 [modV m N rr, x.v, y.v] [] fun r L => r = (W4.of ((x.n + m.n - y.n) % m.n)).v ∧ L = [] := by
 have ha := lsub_ok E x y hx hy
 rw [subC_lt hx hy] at ha
 have hb := ladd_ok E (subW x y) m (subW_ok x y) hm
 have e1 := subW_n hx hy
 have e2 := addW_n (subW x y) m
 have l1 := W4.lt (subW_ok x y)
 have l2 := W4.lt hm
 have l3 := W4.lt (addW_ok (subW x y) m)
 have o1 := subW_ok x y
 have o2 := addW_ok (subW x y) m
 have c1 : subC x y 4 ≤ 1 := sbC_le ..
 generalize addC (subW x y) m 4 = cz at *
 generalize subC x y 4 = cy at *
 generalize addW (subW x y) m = d at *
 generalize subW x y = s at *
 by_cases q1 : x.n < y.n
 ·rw [decide_eq_true q1] at ha
  have hr : d = W4.of ((x.n + m.n - y.n) % m.n) := of_eq o2 (by rw [Nat.mod_eq_of_lt (by omega)]; omega)
  rw [← hr]
  refine Does.of Tryz.func153 rfl Tryz.ntmps153 rfl rfl fun F => ?_
  refine Xb ?_
  refine L_o rfl rfl rfl (O_box rfl fun b3 => ?_)
  refine L_o rfl rfl rfl (O_box rfl fun b4 => ?_)
  refine L_o rfl rfl rfl (O_box rfl fun b5 => ?_)
  refine L_o rfl rfl rfl (O_alloc fun b6 => ?_)
  refine Ln ?_
  refine Xdq ?_
  rintro _ _ ⟨rfl, rfl⟩
  refine Xeb ?_
  refine L_o rfl rfl rfl (O_alloc fun b7 => ?_)
  refine Xz ?_
  refine XA ?_
  refine Xm ?_
  refine Xcd ?_
  refine XD ?_
  refine Xd1 ?_
  rintro _ _ ⟨rfl, rfl⟩
  refine Xcu ?_
  refine Lq (Q_extract rfl rfl) ?_
  refine XG ?_
  refine Xo ?_
  refine XaH ?_
  exact XdU
 ·rw [decide_eq_false q1] at ha
  have hr : s = W4.of ((x.n + m.n - y.n) % m.n) := of_eq o1 (by rw [Nat.mod_eq_sub_mod (by omega), Nat.mod_eq_of_lt (by omega)]; omega)
  rw [← hr]
  refine Does.of Tryz.func153 rfl Tryz.ntmps153 rfl rfl fun F => ?_
  refine Xb ?_
  refine L_o rfl rfl rfl (O_box rfl fun b3 => ?_)
  refine L_o rfl rfl rfl (O_box rfl fun b4 => ?_)
  refine L_o rfl rfl rfl (O_box rfl fun b5 => ?_)
  refine L_o rfl rfl rfl (O_alloc fun b6 => ?_)
  refine Ln ?_
  refine Xdq ?_
  rintro _ _ ⟨rfl, rfl⟩
  refine Xds ?_
  refine L_o rfl rfl rfl (O_alloc fun b7 => ?_)
  refine Xz ?_
  refine XA ?_
  refine Xy ?_
  refine Xo ?_
  refine XaH ?_
  exact XdU
theorem mcut_ok (x : W4) (hx : x.ok) (h1 : x.n < 2 * m.n) : Does Tryz.prog E 97 [modV m N rr, x.v] [] fun r L => r = (W4.of (x.n % m.n)).v ∧ L = [] := by
 have ha := lsub_ok E x m hx hm
 rw [subC_lt hx hm] at ha
 have e1 := subW_n hx hm
 have l1 := W4.lt (subW_ok x m)
 have o1 := subW_ok x m
 have c1 : subC x m 4 ≤ 1 := sbC_le ..
 generalize subC x m 4 = cy at *
 generalize subW x m = s at *
 by_cases q1 : x.n < m.n
 ·rw [decide_eq_true q1] at ha
  have hr : x = W4.of (x.n % m.n) := of_eq hx (by rw [Nat.mod_eq_of_lt q1])
  rw [← hr]
  refine Does.of Tryz.func97 rfl Tryz.ntmps97 rfl rfl fun F => ?_
  refine Xb ?_
  refine L_o rfl rfl rfl (O_box rfl fun b2 => ?_)
  refine L_o rfl rfl rfl (O_box rfl fun b3 => ?_)
  refine L_o rfl rfl rfl (O_alloc fun b4 => ?_)
  refine Xt ?_
  refine XM ?_
  refine XD ?_
  refine XeZ ?_
  rintro _ _ ⟨rfl, rfl⟩
  refine Xeb ?_
  refine L_o rfl rfl rfl (O_alloc fun b5 => ?_)
  refine Xz ?_
  refine Xx ?_
  refine Lq ((Q_not rfl).as (v' := .bool false) rfl) ?_
  refine Xy ?_
  refine XZ ?_
  refine XaH ?_
  exact XdH
 ·rw [decide_eq_false q1] at ha
  have hr : s = W4.of (x.n % m.n) := of_eq o1 (by rw [Nat.mod_eq_sub_mod (by omega), Nat.mod_eq_of_lt (by omega)]; omega)
  rw [← hr]
  refine Does.of Tryz.func97 rfl Tryz.ntmps97 rfl rfl fun F => ?_
  refine Xb ?_
  refine L_o rfl rfl rfl (O_box rfl fun b2 => ?_)
  refine L_o rfl rfl rfl (O_box rfl fun b3 => ?_)
  refine L_o rfl rfl rfl (O_alloc fun b4 => ?_)
  refine Xt ?_
  refine XM ?_
  refine XD ?_
  refine XeZ ?_
  rintro _ _ ⟨rfl, rfl⟩
  refine Xds ?_
  refine L_o rfl rfl rfl (O_alloc fun b5 => ?_)
  refine Xz ?_
  refine Xx ?_
  refine Lq ((Q_not rfl).as (v' := .bool true) rfl) ?_
  refine Xm ?_
  refine Xo ?_
  refine XaH ?_
  refine Xa1 ?_
  exact Xf0
end
end Go.Proofs
