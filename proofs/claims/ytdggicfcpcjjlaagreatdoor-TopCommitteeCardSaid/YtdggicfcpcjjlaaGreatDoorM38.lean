/- Part 38 of the texts below the row: Sl42, Bld, Pol1, Pol2, Sl39. -/
import Derived.Test.YtdggicfcpcjjlaaGreatDoorM1
import Derived.Test.YtdggicfcpcjjlaaGreatDoorM11
import Derived.Test.YtdggicfcpcjjlaaGreatDoorM13
import Derived.Test.YtdggicfcpcjjlaaGreatDoorM15
import Derived.Test.YtdggicfcpcjjlaaGreatDoorM21
import Derived.Test.YtdggicfcpcjjlaaGreatDoorM34
import Derived.Test.YtdggicfcpcjjlaaGreatDoorM37
/- strings.Builder: pointers turned and back. -/
set_option autoImplicit false
namespace Go.SL
def EscFn (P : Program) (f : Nat) : Prop := ∃ fn : Func, P.funcs[f]? = some fn ∧ (fn.name == "runtime.NumGoroutine") = false ∧ fn.body.isNone = true ∧ Extern.findNext fn = none ∧ Extern.find fn = some Extern.AbiNoEscape.same
section
variable {P : Program} {E : World} {n : Nat} {ρ : Env} {L : List HProp} {dst : Option Tmp} {ty : TypeId} {pos : String} {after : Array Edge} {g : Option (Nat × Bool)} {K : Value → List HProp → Prop} {f : Nat} {x y z : Operand} {ts : Array TypeId}
theorem O_esc (v : Value) (hf : EscFn P f) (hx : ρ.ev x = some v) (hK : K v L) : JOp P E n ⟨dst, .call ⟨.value (.func f), #[x], ts⟩, ty, pos, after, g⟩ K ρ L := fun c' w ha hs next Q hn => by
 obtain ⟨fn, h1, h2, h3, h4, h5⟩ := hf
 unfold Oper.wp
 simp only [execOp, resolve]
 have e1 : (Array.map c'.eval #[x]) = #[v] := by simp [ha.ev hx]
 have e2 : c'.eval (.func f) = .func (.func f) #[] #[] := rfl
 simp only [e1, e2, Deferred.ofValue, run_bind_pure, invoke, Array.empty_append, Array.append_empty]
 rw [run_callFunc_extern h1 h2 h3 h4 h5, Lib.run_noEscape]
 simp only [Result.andThen_ok]
 exact hn _ _ w hK hs
theorem Q_toU (i : Nat) {s d t b tb sz by_ : Nat} {zz : Value} {cs : List Value} [u : TyU P s (.pointer t)] [u' : TyU P d .unsafePointer] [k : TyI P t sz zz by_] (hi : L[i]? = some (cel b cs tb)) (hx : ρ.ev x = some (.pointer (some ⟨b, 0, none⟩))) (hsz : sz ≠ 0) (hl : 0 < cs.length) : QOp P E n ⟨dst, .convert s d x, ty, pos, after, g⟩ ρ L (.pointer (some ⟨b, 0, none⟩)) := fun c w ha hs => by
 obtain ⟨r, hr, hrs, _⟩ := k.get
 obtain ⟨fr, hb, hf, hE⟩ := hs.cel_at hi
 have := Lib.run_to_unsafe (P := P) w (src := s) (dst := d) (t := t) (e := tb) (j := r) (cells := cs.length) ⟨b, 0, none⟩ u.h u'.h hr (by rw [hrs]; exact hsz) (by simp [World.shape?, hb]) hl
 simp only [execOp, ha.ev hx]
 simp only [Sem.run_bind, this, Result.andThen_ok, Sem.run_pure]
theorem Q_fromU (i : Nat) {s d t b tb sz by_ : Nat} {zz : Value} {cs : List Value} [u : TyU P s .unsafePointer] [u' : TyU P d (.pointer t)] [k : TyI P t sz zz by_] (hi : L[i]? = some (cel b cs tb)) (hx : ρ.ev x = some (.pointer (some ⟨b, 0, none⟩))) (hl : liesAt P P.depth tb (cs.length / P.cellsOf tb) 0 t 1 = true) : QOp P E n ⟨dst, .convert s d x, ty, pos, after, g⟩ ρ L (.pointer (some ⟨b, 0, none⟩)) := fun c w ha hs => by
 obtain ⟨r, hr, hrs, _⟩ := k.get
 obtain ⟨fr, hb, hf, hE⟩ := hs.cel_at hi
 have := Lib.run_from_unsafe (P := P) w (src := s) (dst := d) (u := t) (e := tb) (j := r) (cells := cs.length) ⟨b, 0, none⟩ u.h u'.h hr (by simp [World.shape?, hb]) hl
 simp only [execOp, ha.ev hx]
 simp only [Sem.run_bind, this, Result.andThen_ok, Sem.run_pure]
theorem Q_pneqS {t t' el sz by_ : Nat} {zz : Value} (a : Addr) [u : TyU P t (.pointer el)] [k : TyI P el sz zz by_] (hx : ρ.ev x = some (.pointer (some a))) (hy : ρ.ev y = some (.pointer (some a))) : QOp P E n ⟨dst, .binOp .neq t x y t', ty, pos, after, g⟩ ρ L (.bool false) := fun c w ha _ => by
 obtain ⟨r, hr, _⟩ := k.get
 exact run_binOp c w ha hx hy (by simp [eqGuard]) (Lib.run_neq_ptr_same (P := P) w a u.h hr)
end
end Go.SL
namespace Go.Proofs
open Go.SL
theorem escFn : EscFn Tryz.prog 135 := ⟨_, Tryz.func135, by kernel_rfl, by kernel_rfl, by kernel_rfl, by kernel_rfl⟩
end Go.Proofs
/- strings.Builder, walked; prefixes. -/
set_option autoImplicit false
namespace Go.Proofs
open Go.SL
attribute [local irreducible] J JL QOp JOp seqQ blockQ loopQ retQ slc cel hex star pur stars Does RV Ent pAt scopeQ
theorem ccheck_ok (E : World) (b : Nat) (q : Option Addr) (hq : q = none ∨ q = some ⟨b, 0, none⟩) (S : SV) : Does Tryz.prog E 80 [.pointer (some ⟨b, 0, none⟩)] [cel b [.pointer q, S.v] 83] fun v L => v = .tuple #[] ∧ L = [cel b [.pointer (some ⟨b, 0, none⟩), S.v] 83] := by
 refine Does.of Tryz.func80 rfl Tryz.ntmps80 rfl rfl fun F => ?_
 refine J.norm ?_
 rcases hq with rfl | rfl
 ·refine Xg ?_
  refine Xaj ?_
  refine Lq ((Q_peql rfl rfl).as (v' := .bool true) rfl) ?_
  refine Xm ?_
  refine Xl ?_
  refine Lq (Q_toU 0 rfl rfl (by decide) (Nat.succ_pos _)) ?_
  refine L_o rfl rfl rfl (O_esc _ escFn rfl ?_)
  refine Xc ?_
  refine Lq (Q_fromU 0 rfl rfl (by kernel_rfl)) ?_
  refine Xaw ?_
  refine X6 ?_
  exact XcY
 ·refine Xg ?_
  refine Xaj ?_
  refine Lq ((Q_peql rfl rfl).as (v' := .bool false) rfl) ?_
  refine X2 ?_
  refine Xg ?_
  refine X9 ?_
  refine Lq (Q_pneqS _ rfl rfl) ?_
  refine XaI ?_
  exact XcY
theorem bwrite_ok (E : World) (b : Nat) (q : Option Addr) (hq : q = none ∨ q = some ⟨b, 0, none⟩) (S : SV) (l m : List UInt8) (hl : l.length + m.length ≤ 100000000000) : Does Tryz.prog E 32 [.pointer (some ⟨b, 0, none⟩), str m] [cel b [.pointer q, S.v] 83, slc tB true S l] fun v L => ∃ S', v = .tuple #[.int .i64 (m.length : Int), .nilIface] ∧ L = [cel b [.pointer (some ⟨b, 0, none⟩), S'.v] 83, slc tB true S' (l ++ m)] := by
 refine Does.of Tryz.func32 rfl Tryz.ntmps32 rfl rfl fun F => ?_
 refine Xb ?_
 refine Xam ?_
 refine L_o rfl rfl rfl (O_call [0] [1,2] (ccheck_ok E b q hq S) rfl rfl ?_)
 rintro _ _ ⟨rfl, rfl⟩
 refine Xr ?_
 refine Xv ?_
 refine X9 ?_
 refine L_o rfl rfl rfl (O_appS tB_enc 1 rfl rfl rfl rfl rfl (by omega) (by decide) (fun S' => ?_))
 refine Xc ?_
 refine Xaw ?_
 refine Xbn ?_
 refine XN ?_
 refine Xbz ?_
 exact retQ_ret [_, _] [_, _] (.cons (RV_tmp rfl) (.cons (RV_tmp rfl) .nil)) ⟨S', rfl, rfl⟩ (Ent.refl _)
theorem bstring_ok (E : World) (b : Nat) (q : Option Addr) (S : SV) (l : List UInt8) (hl : l ≠ []) : Does Tryz.prog E 36 [.pointer (some ⟨b, 0, none⟩)] [cel b [.pointer q, S.v] 83, slc tB true S l] fun v L => v = str l ∧ L = [] := by
 refine Does.of Tryz.func36 rfl Tryz.ntmps36 rfl rfl fun F => ?_
 refine J.norm ?_
 refine J.have (fun w h => h.slc_some 1 rfl hl) fun hS => ?_
 refine Sr ?_
 refine Xn ?_
 refine DH [0,1] [0,1,2,3,4,5,6,7,8,9] (.quiet 0 (.quiet 1 (.quiet 2 (.quiet 3 (.quiet 4 (.quiet 5 (.quiet 6 (.quiet 7 (.quiet 8 (.quiet 9 (.loud 10 (.loud 11 .done)))))))))))) Tryz.mixed ?_
 refine XaC ?_
 refine Xcn ?_
 refine Sq (Ent.re [0,1] rfl) rfl (Q_ld 0 rfl rfl rfl rfl) ?_
 refine Sq (Ent.re [0,1] rfl) rfl (Q_usData rfl hS.1 hS.2) ?_
 refine XaC ?_
 refine Xcn ?_
 refine Sq (Ent.re [0,1] rfl) rfl (Q_ld 0 rfl rfl rfl rfl) ?_
 refine Sq (Ent.re [0,1] rfl) rfl (Q_lenAt 1 rfl rfl) ?_
 refine S_o rfl rfl rfl rfl (O_uString tB_enc 1 (by kernel_rfl) rfl rfl hl rfl rfl rfl ⟨[], free_no (by kernel_rfl), ?_⟩)
 refine Xa ?_
 refine S_o rfl rfl rfl rfl (QOp.jop (Q_assign rfl) ⟨[], free_no (by kernel_rfl), ?_⟩)
 refine Xu ?_
 refine J_ret ?_
 exact retQ_ret [_] [] (.cons (RV_tmp rfl) .nil) ⟨rfl, rfl⟩ (Ent.re [2] rfl)
end Go.Proofs
/- Poly1305: words, clamped keys, sums of products. -/
set_option autoImplicit false
namespace Go.Proofs
open Go.SL
theorem gd8 (l : List UInt8) (i : Nat) (h : i < l.length) : l[i] = l.getD i 0 := by rw [List.getD_eq_getElem?_getD, List.getElem?_eq_getElem h]; rfl
def pwK (l : List UInt8) : Nat → UInt64
 | 0 => 0
 | i + 1 => pwK l i ||| (l.getD i 0).toUInt64 <<< UInt64.ofNat (8 * i)
def pwd (l : List UInt8) : UInt64 := pwK l 8
theorem pwK_take (l : List UInt8) : ∀ i, i ≤ 8 → pwK (l.take 8) i = pwK l i
 | 0, _ => rfl
 | i + 1, h => by
  rw [pwK, pwK, pwK_take l i (by omega), List.getD_eq_getElem?_getD, List.getD_eq_getElem?_getD, List.getElem?_take, if_pos (by omega)]
def clK (f : UInt8 → UInt8) (s : Nat) (l : List UInt8) : Nat → List UInt8
 | 0 => l
 | k + 1 => (clK f s l k).set (s + 4 * k) (f ((clK f s l k).getD (s + 4 * k) 0))
theorem clK_len (f : UInt8 → UInt8) (s : Nat) (l : List UInt8) : ∀ k, (clK f s l k).length = l.length
 | 0 => rfl
 | k + 1 => by rw [clK, List.length_set, clK_len f s l k]
def clamp (l : List UInt8) : List UInt8 := clK (fun x => x &&& ~~~3) 4 (clK (fun x => x &&& 15) 3 l 4) 3
theorem clamp_len (l : List UInt8) : (clamp l).length = l.length := by unfold clamp; rw [clK_len, clK_len]
def psH (a b c d : UInt64) : UInt64 := hiD a b + hiD c d + cyD (a * b) (c * d) 0
def psL (a b c d : UInt64) : UInt64 := a * b + c * d + 0
attribute [local irreducible] J JL QOp JOp seqQ blockQ loopQ retQ slc cel hex star pur stars Does RV Ent pAt scopeQ
theorem pword_ok (E : World) (X : HProp) (S : SV) (l : List UInt8) (hX : ∀ (G : List HProp) w, Sat E w (X :: G) → Rd tB w S l) (hl : 8 ≤ l.length) : Does Tryz.prog E 201 [S.v] [X] fun v L => v = w64 (pwd l) ∧ L = [X] := by
 refine Does.of Tryz.func201 rfl Tryz.ntmps201 rfl rfl fun F => ?_
 refine J.norm ?_
 have h8 : ((l.take 8).drop 0).length = 8 := by simp; omega
 have hT : ∀ w, Sat E w [X, F] → Rd tB w (S.sub tB.sz 0 8) ((l.take 8).drop 0) := fun w hs => (hX [F] w hs).sub 0 8 (Nat.zero_le _) hl
 have hp : ∀ i, i ≤ 8 → pwK l i = pwK ((l.take 8).drop 0) i := fun i hi => by rw [List.drop_zero, pwK_take l i hi]
 unfold pwd
 rw [hp 8 (Nat.le_refl _)]
 generalize (l.take 8).drop 0 = m at *
 refine Sr ?_
 refine XC ?_
 refine XA ?_
 refine Lq (Q_slH 8 (fun w h => hX [F] w h) rfl rfl rfl hl rfl) ?_
 refine Lq (Q_len hT rfl) ?_
 refine XJ ?_
 refine J_loop (fun i : Nat => i ≤ 8) (fun i => [(3, w64 (pwK m i)), (7, (S.sub tB.sz 0 8).v), (8, .int .i64 (m.length : Int)), (9, .int .i64 (i : Int))]) (fun _ => [X, F]) (fun i => 8 - i) 0 (Nat.zero_le _) ⟨rfl, rfl, rfl, rfl, trivial⟩ (Ent.refl _) ?_
 intro i hi
 by_cases h : i < 8
 ·have hm : i < m.length := by omega
  have e1 : pwK m (i + 1) = pwK m i ||| (m[i]).toUInt64 <<< UInt64.ofNat (8 * i) := by rw [pwK, gd8 m i hm]
  refine XR ?_
  refine Lq (Q_ix (τ := tB) i hT rfl rfl rfl hm rfl) ?_
  refine Lq (Q_ldE (τ := tB) (v := w8 m[i]) i 0 hT rfl rfl rfl hm (by decide) rfl) ?_
  refine Xs ?_
  refine Xl ?_
  refine Lq (Q_cvt8D rfl) ?_
  refine Xd ?_
  refine Lq ((Q_mul rfl rfl (IntWalk.i64_in _ (by omega))).as (v' := .int .i64 ((8 * i : Nat) : Int)) rfl) ?_
  refine Lq (Q_shlD (8 * i) rfl rfl (by omega)) ?_
  refine Lq (Q_orD rfl rfl) ?_
  refine Xj ?_
  refine XaS ?_
  exact loopQ_normal (i + 1) (by omega) (by omega) (by simp only [e1]; exact ⟨rfl, rfl, rfl, rfl, trivial⟩) (Ent.refl _)
 ·obtain rfl : i = 8 := by omega
  refine Sr ?_
  refine Lq ((Q_lss rfl rfl).as (v' := .bool false) (congrArg Value.bool (decide_eq_false ((by rw [h8]; decide))))) ?_
  refine Xt ?_
  refine Xb6 ?_
  refine Xg ?_
  refine Xq ?_
  exact retQ_ret _ [X] (.cons (RV_tmp rfl) .nil) ⟨rfl, rfl⟩ (Ent.refl _)
theorem psum_ok (E : World) (a b c d : UInt64) : Does Tryz.prog E 212 [w64 a, w64 b, w64 c, w64 d] [] fun v L => v = .tuple #[w64 (psH a b c d), w64 (psL a b c d)] ∧ L = [] := by
 refine Does.of Tryz.func212 rfl Tryz.ntmps212 rfl rfl fun F => ?_
 refine Xb ?_
 refine Xab ?_
 refine L_o rfl rfl rfl (O_callP (mulD_ok E a b) rfl ?_)
 refine XK ?_
 refine Xab ?_
 refine L_o rfl rfl rfl (O_callP (mulD_ok E c d) rfl ?_)
 refine XK ?_
 refine Xab ?_
 refine L_o rfl rfl rfl (O_addD (a * b) (c * d) 0 addFn (by decide) rfl rfl rfl ?_)
 refine XH ?_
 refine Xab ?_
 refine Lq (Q_addD rfl rfl) ?_
 refine Xd ?_
 refine Lq (Q_addD rfl rfl) ?_
 refine Xd ?_
 refine Xbz ?_
 exact retQ_ret [_, _] [] (.cons (RV_tmp rfl) (.cons (RV_tmp rfl) .nil)) ⟨rfl, rfl⟩ (Ent.refl _)
theorem clamp_ok (E : World) (l : List UInt8) (hl : l.length = 16) : Does Tryz.prog E 200 [str l] [] fun v L => v = .tuple #[str (clamp l), .int .i64 0] ∧ L = [] := by
 refine Does.of Tryz.func200 rfl Tryz.ntmps200 rfl rfl fun F => ?_
 refine J.norm ?_
 unfold clamp
 refine Sr ?_
 refine Xbm ?_
 refine XN ?_
 refine Xci ?_
 refine Xag ?_
 refine L_o rfl rfl rfl (O_s2b tB_enc rfl rfl (by omega) (fun S => ?_))
 refine XaJ ?_
 refine Xa4 ?_
 refine J_loop (fun k : Nat => k ≤ 4) (fun k => [(4, S.v), (5, .int .i64 ((3 + 4 * k : Nat) : Int))]) (fun k => [slc tB true S (clK (fun x => x &&& 15) 3 l k), F]) (fun k => 4 - k) 0 (Nat.zero_le _) ⟨rfl, rfl, trivial⟩ (Ent.refl _) ?_
 intro k hk
 have hA := (clK_len (fun x => x &&& 15) 3 l k).trans hl
 by_cases h : k < 4
 ·have eS : clK (fun x => x &&& 15) 3 l (k + 1) = (clK (fun x => x &&& 15) 3 l k).set (3 + 4 * k) ((clK (fun x => x &&& 15) 3 l k).getD (3 + 4 * k) 0 &&& 15) := rfl
  generalize hB : clK (fun x => x &&& 15) 3 l (k + 1) = B at *
  generalize clK (fun x => x &&& 15) 3 l k = A at *
  have hm : 3 + 4 * k < A.length := by omega
  rw [← gd8 A _ hm] at eS
  refine Xw ?_
  refine XaW ?_
  refine Xac ?_
  refine Xl ?_
  refine Lq (Q_ixAt 0 (3 + 4 * k) rfl rfl rfl rfl hm rfl) ?_
  refine Lq (Q_ldEAt 0 (3 + 4 * k) 0 (v := w8 (A[3 + 4 * k])) rfl rfl rfl rfl hm (by decide) rfl) ?_
  refine Lq (Q_and8 (b := 15) rfl rfl) ?_
  refine Lq (Q_ixAt 0 (3 + 4 * k) rfl rfl rfl rfl hm rfl) ?_
  refine L_s rfl rfl (O_stE 0 (3 + 4 * k) 0 (A[3 + 4 * k] &&& 15) rfl rfl rfl rfl rfl rfl (tB.one _) hm (Nat.le_refl 1) (by simp [tB, Value.cells]) ?_)
  refine Xas ?_
  rw [← eS]
  refine Xe ?_
  refine Lq ((Q_add rfl rfl (IntWalk.i64_in _ (by omega))).as (v' := .int .i64 ((3 + 4 * (k + 1) : Nat) : Int)) (congrArg (Value.int .i64) (by omega))) ?_
  refine Xj ?_
  exact loopQ_normal (k + 1) (by omega) (by omega) ⟨rfl, rfl, trivial⟩ (by rw [hB]; exact Ent.refl _)
 ·obtain rfl : k = 4 := by omega
  generalize clK (fun x => x &&& 15) 3 l 4 = z at *
  refine Xw ?_
  refine Xat ?_
  refine X2 ?_
  refine XaA ?_
  refine J_seq ?_
  refine Xa4 ?_
  refine J_loop (fun k : Nat => k ≤ 3) (fun k => [(4, S.v), (6, .int .i64 ((4 + 4 * k : Nat) : Int))]) (fun k => [slc tB true S (clK (fun x => x &&& ~~~3) 4 z k), F]) (fun k => 3 - k) 0 (Nat.zero_le _) ⟨rfl, rfl, trivial⟩ (Ent.refl _) ?_
  intro k hk
  have hA2 := (clK_len (fun x => x &&& ~~~3) 4 z k).trans hA
  by_cases h : k < 3
  ·have eS : clK (fun x => x &&& ~~~3) 4 z (k + 1) = (clK (fun x => x &&& ~~~3) 4 z k).set (4 + 4 * k) ((clK (fun x => x &&& ~~~3) 4 z k).getD (4 + 4 * k) 0 &&& ~~~3) := rfl
   generalize hB : clK (fun x => x &&& ~~~3) 4 z (k + 1) = B at *
   generalize clK (fun x => x &&& ~~~3) 4 z k = A at *
   have hm : 4 + 4 * k < A.length := by omega
   rw [← gd8 A _ hm] at eS
   refine Xw ?_
   refine XaW ?_
   refine Xac ?_
   refine Xl ?_
   refine Lq (Q_ixAt 0 (4 + 4 * k) rfl rfl rfl rfl hm rfl) ?_
   refine Lq (Q_ldEAt 0 (4 + 4 * k) 0 (v := w8 (A[4 + 4 * k])) rfl rfl rfl rfl hm (by decide) rfl) ?_
   refine Lq (Q_andn8 (b := 3) rfl rfl) ?_
   refine Lq (Q_ixAt 0 (4 + 4 * k) rfl rfl rfl rfl hm rfl) ?_
   refine L_s rfl rfl (O_stE 0 (4 + 4 * k) 0 (A[4 + 4 * k] &&& ~~~3) rfl rfl rfl rfl rfl rfl (tB.one _) hm (Nat.le_refl 1) (by simp [tB, Value.cells]) ?_)
   refine Xas ?_
   rw [← eS]
   refine Xe ?_
   refine Lq ((Q_add rfl rfl (IntWalk.i64_in _ (by omega))).as (v' := .int .i64 ((4 + 4 * (k + 1) : Nat) : Int)) (congrArg (Value.int .i64) (by omega))) ?_
   refine Xj ?_
   exact loopQ_normal (k + 1) (by omega) (by omega) ⟨rfl, rfl, trivial⟩ (by rw [hB]; exact Ent.refl _)
  ·obtain rfl : k = 3 := by omega
   refine Xw ?_
   refine Xat ?_
   refine X2 ?_
   refine XaA ?_
   refine Xg ?_
   refine Xa6 ?_
   refine Xs ?_
   exact Xc7
end Go.Proofs
/- Poly1305: a product reduced, a block. -/
set_option autoImplicit false
namespace Go.Proofs
open Go.SL
structure Ps where
 h0 : UInt64
 h1 : UInt64
 h2 : UInt64
 r0 : UInt64
 r1 : UInt64
 p0 : UInt64
 p1 : UInt64
abbrev Ps.l (s : Ps) : List Value := [w64 s.h0, w64 s.h1, w64 s.h2, w64 s.r0, w64 s.r1, w64 s.p0, w64 s.p1]
structure T5 where
 h0 : UInt64
 h1 : UInt64
 h2 : UInt64
 a : UInt64
 b : UInt64
def T5.low (s : T5) : UInt64 := s.a &&& ~~~3
def T5.done (s : T5) : Prop := ((s.low ||| s.b).toNat : Int) = 0
instance (s : T5) : Decidable s.done := inferInstanceAs (Decidable (_ = _))
def T5.lo2 (s : T5) : UInt64 := s.low >>> UInt64.ofNat 2 ||| s.b <<< UInt64.ofNat 62
def T5.b2 (s : T5) : UInt64 := s.b >>> UInt64.ofNat 2
def T5.c1 (s : T5) : UInt64 := cyD s.h0 s.low 0
def T5.c2 (s : T5) : UInt64 := cyD s.h1 s.b s.c1
def T5.g0 (s : T5) : UInt64 := s.h0 + s.low + 0
def T5.g1 (s : T5) : UInt64 := s.h1 + s.b + s.c1
def T5.g2 (s : T5) : UInt64 := s.h2 + s.c2
def T5.d1 (s : T5) : UInt64 := cyD s.g0 s.lo2 0
def T5.d2 (s : T5) : UInt64 := cyD s.g1 s.b2 s.d1
def T5.f2 (s : T5) : UInt64 := s.g2 + s.d2
def T5.step (s : T5) : T5 := ⟨s.g0 + s.lo2 + 0, s.g1 + s.b2 + s.d1, s.f2 &&& 3, s.f2, 0⟩
theorem T5.c1_le (s : T5) : s.c1.toNat ≤ 1 := cyD_le (by decide)
theorem T5.c2_le (s : T5) : s.c2.toNat ≤ 1 := cyD_le s.c1_le
theorem T5.d1_le (s : T5) : s.d1.toNat ≤ 1 := cyD_le (by decide)
theorem T5.d2_le (s : T5) : s.d2.toNat ≤ 1 := cyD_le s.d1_le
def T5.go : Nat → T5 → T5
 | 0, s => s
 | n + 1, s => if s.done then s else T5.go n s.step
def Ps.t4 (s : Ps) : UInt64 := hiD s.h0 s.r0
def Ps.t6 (s : Ps) : UInt64 := psH s.h0 s.r1 s.h1 s.r0
def Ps.t7 (s : Ps) : UInt64 := psL s.h0 s.r1 s.h1 s.r0
def Ps.t8 (s : Ps) : UInt64 := psH s.h1 s.r1 s.h2 s.r0
def Ps.t9 (s : Ps) : UInt64 := psL s.h1 s.r1 s.h2 s.r0
def Ps.c1 (s : Ps) : UInt64 := cyD s.t7 s.t4 0
def Ps.c2 (s : Ps) : UInt64 := cyD s.t9 s.t6 s.c1
def Ps.u9 (s : Ps) : UInt64 := s.t9 + s.t6 + s.c1
def Ps.t5 (s : Ps) : T5 := ⟨s.h0 * s.r0, s.t7 + s.t4 + 0, s.u9 &&& 3, s.u9, s.h2 * s.r1 + (s.t8 + s.c2)⟩
theorem Ps.c1_le (s : Ps) : s.c1.toNat ≤ 1 := cyD_le (by decide)
theorem Ps.c2_le (s : Ps) : s.c2.toNat ≤ 1 := cyD_le s.c1_le
def Ps.put (s : Ps) (t : T5) : Ps := ⟨t.h0, t.h1, t.h2, s.r0, s.r1, s.p0, s.p1⟩
def Ps.times (s : Ps) : Ps := s.put (T5.go 2 s.t5)
attribute [local irreducible] J JL QOp JOp seqQ blockQ loopQ retQ slc cel hex star pur stars Does RV Ent pAt scopeQ
theorem ptimes_ok (E : World) (p : Nat) (s : Ps) : Does Tryz.prog E 210 [.pointer (some ⟨p, 0, none⟩)] [cel p s.l 288] fun v L => v = .tuple #[] ∧ L = [cel p s.times.l 288] := by
 refine Does.of Tryz.func210 rfl Tryz.ntmps210 rfl rfl fun F => ?_
 refine J.norm ?_
 have k1 := s.c1_le
 refine J_seq ?_
 refine DL [0,1,2,3,4,5,6,7,8,9,10,11] (.quiet 0 (.quiet 1 (.quiet 2 (.quiet 3 (.quiet 4 (.quiet 5 (.quiet 6 (.quiet 7 (.quiet 8 (.quiet 9 (.quiet 10 (.quiet 11 .done)))))))))))) Tryz.mixed ?_
 refine Xbt ?_
 refine Sq (Ent.refl _) rfl (Q_fa0 rfl) ?_
 refine Sq (Ent.refl _) rfl (Q_ia 0 rfl rfl rfl (by decide) rfl) ?_
 refine Sq (Ent.refl _) rfl (Q_ld 0 rfl rfl rfl rfl) ?_
 refine Xbt ?_
 refine Sq (Ent.refl _) rfl (Q_fa0 rfl) ?_
 refine Sq (Ent.refl _) rfl (Q_ia 1 rfl rfl rfl (by decide) rfl) ?_
 refine Sq (Ent.refl _) rfl (Q_ld 0 rfl rfl rfl rfl) ?_
 refine Xdm ?_
 refine Xu ?_
 refine Xg ?_
 refine X9 ?_
 refine L_o rfl rfl rfl (O_callP (mulD_ok E s.h0 s.r0) rfl ?_)
 refine XK ?_
 refine XaK ?_
 refine Xfl ?_
 refine Xef ?_
 refine Xbt ?_
 refine Xef ?_
 refine S_o rfl rfl rfl rfl (O_callP (psum_ok E s.h0 s.r1 s.h1 s.r0) rfl ⟨_, fun _ => ⟨Ent.nrm, Ent.refl _⟩, ?_⟩)
 refine Xa ?_
 refine Sq (Ent.refl _) rfl (Q_move rfl) ?_
 refine Sq (Ent.refl _) rfl (Q_ext20 rfl) ?_
 refine Sq (Ent.refl _) rfl (Q_ext21 rfl) ?_
 refine Xdm ?_
 refine XaY ?_
 refine Xfl ?_
 refine Xef ?_
 refine Xbt ?_
 refine Xef ?_
 refine S_o rfl rfl rfl rfl (O_callP (psum_ok E s.h1 s.r1 s.h2 s.r0) rfl ⟨_, fun _ => ⟨Ent.nrm, Ent.refl _⟩, ?_⟩)
 refine Xa ?_
 refine Sq (Ent.refl _) rfl (Q_move rfl) ?_
 refine Sq (Ent.refl _) rfl (Q_ext20 rfl) ?_
 refine Sq (Ent.refl _) rfl (Q_ext21 rfl) ?_
 refine Xdm ?_
 refine Xu ?_
 refine Xg ?_
 refine X9 ?_
 refine Lq (Q_mulD rfl rfl) ?_
 refine XC ?_
 refine XT ?_
 refine L_o rfl rfl rfl (O_addD s.t7 s.t4 0 addFn (by decide) rfl rfl rfl ?_)
 refine XH ?_
 refine Xam ?_
 refine Xf ?_
 refine L_o rfl rfl rfl (O_addD s.t9 s.t6 s.c1 addFn k1 rfl rfl rfl ?_)
 refine XH ?_
 refine Xam ?_
 refine Xf ?_
 refine Lq (Q_addD rfl rfl) ?_
 refine Lq (Q_addD rfl rfl) ?_
 refine Xx ?_
 refine Xf ?_
 refine X7 ?_
 refine Lq (Q_andD (b := 3) rfl rfl) ?_
 refine Xaw ?_
 refine Xc ?_
 refine Xaw ?_
 refine Xc ?_
 refine Xaw ?_
 refine Xbn ?_
 refine XP ?_
 refine J_loop (fun i : Nat × T5 => i.1 ≤ 2 ∧ T5.go (2 - i.1) i.2 = T5.go 2 s.t5) (fun i => [(0, .pointer (some ⟨p, 0, none⟩)), (9, w64 i.2.a), (10, w64 i.2.b), (98, .int .i64 (i.1 : Int))]) (fun i => [cel p (s.put i.2).l 288, F]) (fun i => 2 - i.1) (0, s.t5) ⟨Nat.zero_le _, rfl⟩ ⟨rfl, rfl, rfl, rfl, trivial⟩ (Ent.refl _) ?_
 rintro ⟨i, t⟩ ⟨hi, hgo⟩
 simp only at hi hgo
 have hp : s.times = s.put (T5.go (2 - i) t) := by rw [hgo]; rfl
 rw [hp]
 by_cases h : i < 2
 ·have q1 := t.c1_le
  have q2 := t.c2_le
  have q3 := t.d1_le
  have q4 := t.d2_le
  have hsub : 2 - i = (2 - (i + 1)) + 1 := by omega
  refine Sr ?_
  refine XaW ?_
  refine J_seq ?_
  refine Xac ?_
  refine Xv ?_
  refine Lq (Q_andnD (b := 3) rfl rfl) ?_
  refine XaK ?_
  refine J_seq ?_
  by_cases hd : t.done
  ·have e : T5.go (2 - i) t = t := by rw [hsub, T5.go, if_pos hd]
   rw [e]
   refine Xl ?_
   refine Lq (Q_orD rfl rfl) ?_
   refine Lq ((Q_eql rfl rfl).as (v' := .bool true) (congrArg Value.bool (decide_eq_true (hd)))) ?_
   refine Xm ?_
   refine Xa8 ?_
   refine Xa9 ?_
   refine Xbr ?_
   exact XcY
  ·have e : T5.go (2 - i) t = T5.go (2 - (i + 1)) t.step := by rw [hsub, T5.go, if_neg hd]
   rw [e] at hgo ⊢
   refine Xl ?_
   refine Lq (Q_orD rfl rfl) ?_
   refine Lq ((Q_eql rfl rfl).as (v' := .bool false) (congrArg Value.bool (decide_eq_false (hd)))) ?_
   refine Xy ?_
   refine Xv ?_
   refine X9 ?_
   refine L_o rfl rfl rfl (O_addD t.h0 t.low 0 addFn (by decide) rfl rfl rfl ?_)
   refine XH ?_
   refine Xaw ?_
   refine Xc ?_
   refine XT ?_
   refine Xaj ?_
   refine Xf ?_
   refine L_o rfl rfl rfl (O_addD t.h1 t.b t.c1 addFn q1 rfl rfl rfl ?_)
   refine XH ?_
   refine Xaw ?_
   refine Xc ?_
   refine Xx ?_
   refine X9 ?_
   refine Lq (Q_addD rfl rfl) ?_
   refine Xaw ?_
   refine Xbn ?_
   refine Lq (Q_shrD 2 rfl rfl (by decide)) ?_
   refine Xd ?_
   refine Lq (Q_shlD 62 rfl rfl (by decide)) ?_
   refine Lq (Q_orD rfl rfl) ?_
   refine Xd ?_
   refine Lq (Q_shrD 2 rfl rfl (by decide)) ?_
   refine Xab ?_
   refine X9 ?_
   refine L_o rfl rfl rfl (O_addD t.g0 t.lo2 0 addFn (by decide) rfl rfl rfl ?_)
   refine XH ?_
   refine Xaw ?_
   refine Xc ?_
   refine XT ?_
   refine Xaj ?_
   refine Xf ?_
   refine L_o rfl rfl rfl (O_addD t.g1 t.b2 t.d1 addFn q3 rfl rfl rfl ?_)
   refine XH ?_
   refine Xaw ?_
   refine Xc ?_
   refine Xx ?_
   refine X9 ?_
   refine Lq (Q_addD rfl rfl) ?_
   refine Xaw ?_
   refine Xbn ?_
   refine Xaj ?_
   refine Xs ?_
   refine Xe ?_
   refine Xaj ?_
   refine Lq (Q_andD (b := 3) rfl rfl) ?_
   refine Xaw ?_
   refine X6 ?_
   refine XaS ?_
   exact loopQ_normal (i + 1, t.step) ⟨by show i + 1 ≤ 2; omega, hgo⟩ (by show 2 - (i + 1) < 2 - i; omega) ⟨rfl, rfl, rfl, rfl, trivial⟩ (Ent.refl _)
 ·obtain rfl : i = 2 := by omega
  refine Xdl ?_
  refine XbA ?_
  exact XcY
end Go.Proofs
/- An array cleared. -/
set_option autoImplicit false
namespace Go.SL
section
variable {P : Program} {E : World} {n : Nat} {ρ : Env} {L : List HProp} {dst : Option Tmp} {ty : TypeId} {pos : String} {after : Array Edge} {g : Option (Nat × Bool)}
/-- clear(a[:]) -/
theorem O_clearC (i N : Nat) {K : Value → List HProp → Prop} {t el sz by_ b tb c m : Nat} {z : Value} {x : Operand} {cs cs' : List Value} [u : TyU P t (.slice el)] [v : TyI P el sz z by_] (hi : L[i]? = some (cel b cs tb))
 (hx : ρ.ev x = some (.slice (some ⟨b, 0, none⟩) m c)) (hm : m = N + 1) (hcs : (Builtin.zeroCells z.cells (N + 1)).toList = cs') (hl : cs.length = cs'.length) (h1 : ∀ v ∈ cs', v.oneCell' = true)
 (hK : K (.tuple #[]) (L.set i (cel b cs' tb))) : JOp P E n ⟨dst, .call ⟨.builtin .clear, #[x], #[t]⟩, ty, pos, after, g⟩ K ρ L := fun a w ha hs next Q hn => by
 obtain ⟨r, hr, hrs, hrz, hrb⟩ := v.get
 subst hm
 obtain ⟨fr, hb, hf, hE⟩ := hs.cel_at hi
 obtain ⟨w', hw, ht⟩ := run_storeCells (P := P) b tb fr cs' 0 0 cs w hb hf (by omega) h1
 have key : (Builtin.clear_ #[t] ty #[.slice (some ⟨b, 0, none⟩) (N + 1) c]).run P w = .ok (.tuple #[]) w' := by
  have hw' : (storeCells (⟨b, 0, none⟩ : Addr) cs').run P w = .ok () w' := hw
  simp only [Builtin.clear_]
  simp [run_underlying u.h, zeroValue, typeInfo, hr, hrz]
  rw [hcs, hw']
  simp
 have hs' : Sat E w' (L.set i (cel b cs' tb)) := by
  have e : cs.take 0 ++ cs' ++ cs.drop (0 + cs'.length) = cs' := by rw [List.take_zero, List.nil_append, Nat.zero_add, ← hl, List.drop_length, List.append_nil]
  refine hs.turn_at hi (o := .cells (cs.take 0 ++ cs' ++ cs.drop (0 + cs'.length)).toArray tb fr) (fun p ⟨fr', hp, hf'⟩ hw' => ⟨⟨_, hp⟩, ?_⟩) (by simpa using ht)
  refine ⟨fr, by rw [e]; simp, ?_⟩
  rw [← hl]; exact hf
 unfold Oper.wp
 simp only [execOp, resolve]
 have e1 : (Array.map a.eval #[x]) = #[.slice (some ⟨b, 0, none⟩) (N + 1) c] := by simp [ha.ev hx]
 simp only [run_bind_pure, invoke, e1, builtin]
 simp only [Sem.run_bind, key, Result.andThen_ok, Sem.run_pure]
 exact hn _ _ w' hK hs'
end
end Go.SL
