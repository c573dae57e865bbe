/- Part 41 of the texts below the row: Sha3, Sl37, Sha4, Hm1. -/
import Derived.Test.YtdggicfcpcjjlaaGreatDoorM1
import Derived.Test.YtdggicfcpcjjlaaGreatDoorM13
import Derived.Test.YtdggicfcpcjjlaaGreatDoorM21
import Derived.Test.YtdggicfcpcjjlaaGreatDoorM33
import Derived.Test.YtdggicfcpcjjlaaGreatDoorM35
import Derived.Test.YtdggicfcpcjjlaaGreatDoorM40
/- SHA-256: texts written, the sum. -/
set_option autoImplicit false
namespace Go.Proofs
open Go.SL
/-- After k blocks. -/
def absH (hs : List UInt32) (l : List UInt8) : Nat → List UInt32
 | 0 => hs
 | k + 1 => blkS (absH hs l k) ((l.drop (64 * k)).take 64)
theorem absH_len (hs : List UInt32) (l : List UInt8) (h : hs.length = 8) : ∀ k, (absH hs l k).length = 8
 | 0 => h
 | k + 1 => blkS_len _ _ (absH_len hs l h k)
def absD (hs : List UInt32) (l : List UInt8) : List UInt32 := absH hs l (l.length / 64)
def absR (l : List UInt8) : List UInt8 := l.drop (64 * (l.length / 64))
theorem absD_len (hs : List UInt32) (l : List UInt8) (h : hs.length = 8) : (absD hs l).length = 8 := absH_len hs l h _
theorem absR_len (l : List UInt8) : (absR l).length < 64 := by unfold absR; rw [List.length_drop]; omega
theorem st_get8 {hs : List UInt32} (h : hs.length = 8) (S : SV) (n : Nat) : (stL hs S n)[8]? = some S.v := by
 rw [eight h]; rfl
theorem st_get9 {hs : List UInt32} (h : hs.length = 8) (S : SV) (n : Nat) : (stL hs S n)[9]? = some (.int .u64 (n : Int)) := by
 rw [eight h]; rfl
theorem st_set8 {hs : List UInt32} (h : hs.length = 8) (S S' : SV) (n : Nat) : (stL hs S n).set 8 S'.v = stL hs S' n := by
 rw [eight h]; rfl
theorem st_set9 {hs : List UInt32} (h : hs.length = 8) (S : SV) (n n' : Nat) : (stL hs S n).set 9 (.int .u64 (n' : Int)) = stL hs S n' := by
 rw [eight h]; rfl
theorem st_len {hs : List UInt32} (h : hs.length = 8) (S : SV) (n : Nat) : (stL hs S n).length = 10 := by
 rw [eight h]; rfl
attribute [local irreducible] J JL QOp JOp seqQ blockQ loopQ retQ slc cel hex star pur stars Does RV Ent pAt scopeQ
theorem shaW_ok (E : World) [hE : LaidE E] (p : Nat) (hs : List UInt32) (h8 : hs.length = 8) (S : SV) (n : Nat) (l m : List UInt8) (hb : l.length + m.length ≤ 1099511627776) (hn : n + m.length ≤ 1152921504606846976) : Does Tryz.prog E 168 [.pointer (some ⟨p, 0, none⟩), str m] [cel p (stL hs S n) 205, wtC tB S l] fun v L => v = .tuple #[] ∧ ∃ S', L = [cel p (stL (absD hs (l ++ m)) S' (n + m.length)) 205, wtC tB S' (absR (l ++ m))] := by
 have hg9 := st_get9 h8 S n
 have hs9 := st_set9 h8 S n (n + m.length)
 refine Does.of Tryz.func168 rfl Tryz.ntmps168 rfl rfl fun F => ?_
 refine J.norm ?_
 refine J.have (fun w hs => hs.wt_cap (β := tB) 1 rfl) fun hcap => ?_
 refine Xg ?_
 refine XL ?_
 refine Lq (Q_ld 0 rfl rfl rfl hg9) ?_
 refine Xd ?_
 refine XN ?_
 refine Xf8 ?_
 refine Lq ((Q_add rfl rfl (IntWalk.u64_in _ (by omega))).as (v' := .int .u64 ((n + m.length : Nat) : Int)) rfl) ?_
 refine XL ?_
 refine L_s rfl rfl (O_stS 0 rfl rfl rfl rfl rfl (by rw [st_len h8]; decide) ?_)
 refine XQ ?_
 rw [hs9]
 have hg8 := st_get8 h8 S (n + m.length)
 refine DH [0] [0,1,2,3,4,5,6,7,8,9,10,11,12,13,14,15,16,18,19] (.quiet 0 (.quiet 1 (.quiet 2 (.quiet 3 (.quiet 4 (.quiet 5 (.quiet 6 (.quiet 7 (.quiet 8 (.quiet 9 (.quiet 10 (.quiet 11 (.quiet 12 (.quiet 13 (.quiet 14 (.quiet 15 (.quiet 16 (.loud 17 (.quiet 18 (.quiet 19 (.loud 20 .done))))))))))))))))))))) Tryz.mixed ?_
 refine Xak ?_
 refine XeT ?_
 refine XU ?_
 refine XaE ?_
 refine XeT ?_
 refine Sq (Ent.re [0] rfl) rfl (Q_lenV rfl) ?_
 refine XU ?_
 refine XaE ?_
 refine XeT ?_
 refine Sq (Ent.re [0] rfl) rfl (Q_lenV rfl) ?_
 refine Sq (Ent.re [0] rfl) rfl (Q_sl3n (τ := tB) (S := S) rfl rfl rfl rfl rfl hcap) ?_
 refine XU ?_
 refine S_o rfl rfl rfl rfl (O_appW tB_enc 1 rfl rfl rfl rfl rfl (by omega) (by decide) (fun S' => ⟨_, fun _ => ⟨Ent.reN [0] rfl, Ent.refl _⟩, ?_⟩))
 refine Xa ?_
 refine XaE ?_
 refine XbQ ?_
 refine S_s rfl rfl rfl (O_stS 0 rfl rfl rfl rfl rfl (by rw [st_len h8]; decide) ⟨[], free_no (by kernel_rfl), ?_⟩)
 refine Xbg ?_
 refine J_block ?_
 rw [st_set8 h8]
 generalize hD : l ++ m = D
 refine J.wt (β := tB) 1 rfl (fun e1 e2 => ?_) ?_
 ·subst e1
  refine J.norm ?_
  have hg8 := st_get8 h8 S' (n + m.length)
  refine J_loop (fun _ : Unit => True) (fun _ => [(0, .pointer (some ⟨p, 0, none⟩))]) (fun _ => [cel p (stL hs S' (n + m.length)) 205, emp, F]) (fun _ => 0) () trivial ⟨rfl, trivial⟩ (Ent.refl _) ?_
  intro _ _
  refine Xw ?_
  refine XL ?_
  refine Lq (Q_ld 0 rfl rfl rfl hg8) ?_
  refine Lq (Q_lenV rfl) ?_
  refine Lq ((Q_geq rfl rfl).as (v' := .bool false) (congrArg Value.bool (decide_eq_false ((by rw [e2.1]; decide))))) ?_
  refine X2 ?_
  refine Xa8 ?_
  refine Xbr ?_
  exact retQ_normal [] [_, _] .nil ⟨rfl, S', rfl⟩ (Ent.wt0 1 rfl e2)
 ·refine J.norm ?_
  refine J_loop (fun i : Nat × SV => 64 * i.1 ≤ D.length) (fun _ => [(0, .pointer (some ⟨p, 0, none⟩))]) (fun i => [cel p (stL (absH hs D i.1) i.2 (n + m.length)) 205, slc tB true i.2 (D.drop (64 * i.1)), F]) (fun i => D.length - 64 * i.1) (0, S') (Nat.zero_le _) ⟨rfl, trivial⟩ (Ent.refl _) ?_
  rintro ⟨k, S⟩ hi
  have h8k := absH_len hs D h8 k
  have hg8 := st_get8 h8k S (n + m.length)
  have hlk : (D.drop (64 * k)).length = D.length - 64 * k := List.length_drop
  simp only at hi
  by_cases h : 64 ≤ (D.drop (64 * k)).length
  ·have hk2 : 64 * (k + 1) ≤ D.length := by omega
   refine Xw ?_
   refine XL ?_
   refine Lq (Q_ld 0 rfl rfl rfl hg8) ?_
   refine XX ?_
   refine Lq ((Q_geq rfl rfl).as (v' := .bool true) (congrArg Value.bool (decide_eq_true ((by show (64 : Int) ≤ ((D.drop (64 * k)).length : Nat); omega))))) ?_
   refine Ln ?_
   refine J_condT rfl ?_
   refine XS ?_
   refine J_block ?_
   refine Xv ?_
   refine XL ?_
   refine Lq (Q_ld 0 rfl rfl rfl hg8) ?_
   refine Lq (Q_slH 64 (fun w h => h.rd 1 rfl) rfl rfl rfl h rfl) ?_
   refine L_o rfl rfl rfl (O_call [0,1] [2] (block_ok E p _ h8k S (n + m.length) true S _ h) rfl rfl ?_)
   rintro _ _ rfl
   refine Xr ?_
   have h8k1 := absH_len hs D h8 (k + 1)
   have hg8' := st_get8 h8k1 S (n + m.length)
   have hs8' := fun T => st_set8 h8k1 S T (n + m.length)
   have e1 : blkS (absH hs D k) (((D.drop (64 * k)).take 64).drop 0) = absH hs D (k + 1) := rfl
   rw [e1]
   generalize hA : absH hs D (k + 1) = A at *
   refine Xl ?_
   refine XL ?_
   refine Lq (Q_ld 0 rfl rfl rfl hg8') ?_
   refine Lq (Q_slL 64 (fun w h => h.rd 1 rfl) rfl rfl rfl h rfl) ?_
   refine XL ?_
   refine L_s rfl rfl (O_stS 0 rfl rfl rfl rfl rfl (by rw [st_len h8k1]; decide) ?_)
   refine X6 ?_
   refine blockQ_normal ?_
   rw [hs8']
   refine loopQ_normal (k + 1, S.sub tB.sz 64 (D.drop (64 * k)).length) (by show 64 * (k + 1) ≤ _; omega) (by show D.length - 64 * (k + 1) < D.length - 64 * k; omega) ⟨rfl, trivial⟩ ?_
   have e2 : ((D.drop (64 * k)).take (D.drop (64 * k)).length).drop 64 = D.drop (64 * (k + 1)) := by rw [List.take_length, List.drop_drop]; rfl
   subst hA
   refine Ent.trans (Ent.sub 1 64 _ rfl h (Nat.le_refl _)) ?_
   rw [e2]
   exact Ent.refl _
  ·have hk : k = D.length / 64 := by omega
   subst hk
   refine Xw ?_
   refine XL ?_
   refine Lq (Q_ld 0 rfl rfl rfl hg8) ?_
   refine XX ?_
   refine Lq ((Q_geq rfl rfl).as (v' := .bool false) (congrArg Value.bool (decide_eq_false ((by show ¬ (64 : Int) ≤ ((D.drop (64 * (D.length / 64))).length : Nat); omega))))) ?_
   refine X2 ?_
   refine Xa8 ?_
   refine Xbr ?_
   exact retQ_normal [] [_, _] .nil ⟨rfl, S, rfl⟩ (Ent.wt 1 rfl)
end Go.Proofs
/- Zeros put behind bytes. -/
set_option autoImplicit false
namespace Go.SL
section
variable {β : Ty UInt8} {P : Program} {E : World} {n : Nat} {ρ : Env} {L : List HProp} {dst : Option Tmp} {ty : TypeId} {pos : String} {after : Array Edge} {g : Option (Nat × Bool)}
theorem nextcap_le (n c : Nat) (h : n ≤ 1099511627776) (hc : c < n) : Builtin.nextslicecap n c ≤ 2 * n := by
 unfold Builtin.nextslicecap
 split
 ·omega
 ·split
  ·omega
  ·have grow : ∀ (rounds c N : Nat), c ≤ 2 * N → 256 ≤ N → (∀ c', c' < N → c' + (c' + 768) / 4 ≤ 2 * N) → Builtin.growBy N rounds c ≤ 2 * N := by
    intro rounds
    induction rounds with
    | zero => intro c N h _ _; exact h
    | succ r ih =>
     intro c N h h2 h3
     unfold Builtin.growBy
     split
     ·exact h
     ·exact ih _ _ (h3 c (by omega)) h2 h3
   exact grow 4 c n (by omega) (by omega) (by intro c' hc'; omega)
theorem append_zeros_eq {t t' t2 ty k : Nat} {z : Value} {kk k1 : IntKind} {S : SV} {w : World} (ht : P.underlying t = some (.slice β.e)) (ht' : P.underlying t' = some (.int kk)) (ht2 : P.underlying t2 = some .string)
 (hi : TyI P β.e 1 z 1) (hz : z.cells = #[.int .u8 0]) (hk : S.n + k ≤ 1099511627776) :
 (Builtin.append_ #[t, t'] ty #[S.v, .int k1 (k : Int)]).run P w = (Builtin.append_ #[t, t2] ty #[S.v, str (List.replicate k 0)]).run P w := by
 obtain ⟨r, hr, hrs, hrz, hrb⟩ := hi.get
 have hwr : IntKind.i64.wrap (k : Int) = k := IntWalk.i64_in _ (by omega)
 have h0 : ¬ ((k : Int) < 0) := by omega
 have h48 : ¬ ((281474976710656 : Int) < k) := by omega
 have hlen : ∀ w, (Builtin.lenOf (str (List.replicate k 0))).run P w = .ok k w := fun w => by
  have e : (⟨Array.replicate k 0⟩ : ByteArray).size = k := by show (Array.replicate k (0 : UInt8)).size = k; simp
  simp [Builtin.lenOf, e]
 have hzc : Builtin.zeroCells z.cells k = (List.replicate k (Value.int .u8 0)).toArray := by
  rw [hz]
  apply Array.ext'
  simp only [Builtin.zeroCells, Array.toList_map, Array.toList_range, List.size_toArray, List.length_cons, List.length_nil]
  refine List.ext_getElem (by simp) fun i h1 h2 => ?_
  simp [Nat.mod_one]
 have hfc : ∀ w, (Builtin.firstCells 1 k (str (List.replicate k 0))).run P w = .ok (List.replicate k (Value.int .u8 0)).toArray w := fun w => by
  have := Lib.run_firstCells_string (P := P) w 1 ⟨(List.replicate k 0).toArray⟩
  rw [size_str, List.length_replicate] at this
  have e : (⟨Array.replicate k 0⟩ : ByteArray).size = k := by show (Array.replicate k (0 : UInt8)).size = k; simp
  rw [this]
  simp [Lib.strCells]
 have hcap : S.n + k ≤ S.c ∨ ¬ (S.n + k ≤ S.c) ∧ ¬ (281474976710656 < Builtin.nextslicecap (S.n + k) S.c) ∧ ¬ (9223372036854775807 < ((S.n : Int) + (k : Int))) := by
  by_cases h : S.n + k ≤ S.c
  ·exact .inl h
  ·have := nextcap_le (S.n + k) S.c hk (by omega)
   exact .inr ⟨h, by omega, by omega⟩
 have hai : ∀ w, (asInt (.int k1 (k : Int))).run P w = .ok (k : Int) w := fun w => by simp [asInt, asIntOf]
 have hai0 : ∀ w, (asInt (.int k1 0)).run P w = .ok 0 w := fun w => by simp [asInt, asIntOf]
 have hwr0 : IntKind.i64.wrap 0 = 0 := rfl
 generalize str (List.replicate k 0) = X at hlen hfc ⊢
 simp only [Builtin.append_, SV.v]
 rcases hcap with h | ⟨h, h2, h3⟩
 ·by_cases hk0 : k = 0
  ·have hlen0 : ∀ w, (Builtin.lenOf X).run P w = .ok 0 w := fun w => by rw [hlen, hk0]
   have hfc0 : ∀ w, (Builtin.firstCells 1 0 X).run P w = .ok #[] w := fun w => by have := hfc w; rw [hk0] at this; exact this
   subst hk0
   simp [run_underlying ht, run_underlying ht', run_underlying ht2, sizeOf, typeInfo, hr, hrs, hrb, hai0, hwr0, hlen0, hfc0, (show S.n ≤ S.c from h)]
  ·simp [run_underlying ht, run_underlying ht', run_underlying ht2, sizeOf, typeInfo, zeroValue, hr, hrs, hrb, hrz, hai, hwr, hlen, hfc, h, h0, h48, hk0, hzc]
 ·by_cases hk0 : k = 0
  ·have hlen0 : ∀ w, (Builtin.lenOf X).run P w = .ok 0 w := fun w => by rw [hlen, hk0]
   have hfc0 : ∀ w, (Builtin.firstCells 1 0 X).run P w = .ok #[] w := fun w => by have := hfc w; rw [hk0] at this; exact this
   subst hk0
   simp [run_underlying ht, run_underlying ht', run_underlying ht2, sizeOf, typeInfo, zeroValue, hr, hrs, hrb, hrz, hai0, hwr0, hlen0, hfc0, (show ¬ S.n ≤ S.c from h), (show ¬ (281474976710656 < Builtin.nextslicecap S.n S.c) from h2), (show ¬ ((9223372036854775807 : Int) < S.n) by omega)]
  ·simp [run_underlying ht, run_underlying ht', run_underlying ht2, sizeOf, typeInfo, zeroValue, hr, hrs, hrb, hrz, hai, hwr, hlen, hfc, h, h0, h48, h2, h3, hk0, hzc]
/-- append(s, make([]byte, k)...) -/
theorem O_appK (hβ : ∀ b, β.enc b = [.int .u8 (b.toNat : Int)]) (hβs : β.sz = 1) (i k : Nat) (t2 : Nat) {K : Value → List HProp → Prop} {t t' : Nat} {z : Value} {kk k1 : IntKind} {j : Int} {x y : Operand} {S : SV} {l : List UInt8} [u : TyU P t (.slice β.e)] [u' : TyU P t' (.int kk)] [u2 : TyU P t2 .string] [v : TyI P β.e 1 z 1] (hL : L[i]? = some (slc β true S l))
 (hx : ρ.ev x = some S.v) (hy : ρ.ev y = some (.int k1 j)) (hj : j = (k : Int)) (hz : z.cells = #[.int .u8 0]) (hb : l.length + k ≤ 1099511627776)
 (hK : ∀ S', K (SV.v S') (L.set i (slc β true S' (l ++ List.replicate k 0)))) : JOp P E n ⟨dst, .call ⟨.builtin .append, #[x, y], #[t, t']⟩, ty, pos, after, g⟩ K ρ L := fun a w ha hs next Q hn => by
 subst hj
 have hflat : ∀ m : List UInt8, β.flat m = m.map (fun b : UInt8 => Value.int .u8 (b.toNat : Int)) := fun m => by
  induction m with
  | nil => rfl
  | cons b m ih => rw [β.flat_cons, ih, hβ]; rfl
 have hn0 : S.n = l.length := (hs.rd i hL).1
 obtain ⟨S', w', hr, hs'⟩ := run_append_all (P := P) (ty := ty) hs i u.h u2.h rfl v hβs.symm (by rw [hz]; rfl) S l (List.replicate k 0) (str (List.replicate k 0)) hL (by
  have e : (⟨Array.replicate k 0⟩ : ByteArray).size = k := by show (Array.replicate k (0 : UInt8)).size = k; simp
  simp [Builtin.lenOf, e]) (fun w' hw' => by
  have := Lib.run_firstCells_string (P := P) w' 1 ⟨(List.replicate k 0).toArray⟩
  rw [size_str] at this
  rw [this, hflat]
  simp [Lib.strCells]) (by simp; omega) (by decide)
 unfold Oper.wp
 simp only [execOp, resolve]
 have e1 : (Array.map a.eval #[x, y]) = #[S.v, .int k1 (k : Int)] := by simp [ha.ev hx, ha.ev hy]
 simp only [run_bind_pure, invoke, e1, builtin]
 rw [← append_zeros_eq (k1 := k1) u.h u'.h u2.h v hz (by omega)] at hr
 simp only [Sem.run_bind, hr, Result.andThen_ok, Sem.run_pure]
 exact hn _ _ w' (hK S') hs'
end
end Go.SL
/- SHA-256: the sum. -/
set_option autoImplicit false
namespace Go.Proofs
open Go.SL
def pad8 (n : Nat) : Nat → List UInt8
 | 0 => []
 | k + 1 => pad8 n k ++ [UInt8.ofNat (n * 8 % 18446744073709551616 / 2 ^ (8 * (7 - k)))]
theorem pad8_len (n : Nat) : ∀ k, (pad8 n k).length = k
 | 0 => rfl
 | k + 1 => by rw [pad8, List.length_append, pad8_len n k]; rfl
def shaP (l n : Nat) : List UInt8 := [128] ++ List.replicate ((119 - l) % 64) 0 ++ pad8 n 8
theorem shaP_len (l n : Nat) : (shaP l n).length ≤ 72 := by unfold shaP; simp [pad8_len]; omega
def w4 (x : UInt32) : List UInt8 := [(x >>> UInt32.ofNat 24).toUInt8, (x >>> UInt32.ofNat 16).toUInt8, (x >>> UInt32.ofNat 8).toUInt8, x.toUInt8]
def w4s : List UInt32 → List UInt8
 | [] => []
 | x :: l => w4 x ++ w4s l
theorem w4s_len : ∀ l, (w4s l).length = 4 * l.length
 | [] => rfl
 | x :: l => by rw [w4s, List.length_append, w4s_len l]; simp [w4]; omega
theorem w4s_app : ∀ l m, w4s (l ++ m) = w4s l ++ w4s m
 | [], m => rfl
 | x :: l, m => by rw [List.cons_append, w4s, w4s, w4s_app l m, List.append_assoc]
/-- The sum of what was written: hs, what waits, how long. -/
def shaO (hs : List UInt32) (l : List UInt8) (n : Nat) : List UInt8 := w4s (absD hs (l ++ shaP l.length n))
theorem shaO_len (hs : List UInt32) (l : List UInt8) (n : Nat) (h : hs.length = 8) : (shaO hs l n).length = 32 := by unfold shaO; rw [w4s_len, absD_len _ _ h]
def shaS (l : List UInt8) : List UInt8 := shaO (absD shaF l) (absR l) l.length
theorem shaF_len : shaF.length = 8 := rfl
theorem shaS_len (l : List UInt8) : (shaS l).length = 32 := shaO_len _ _ _ (absD_len _ _ shaF_len)
attribute [local irreducible] J JL QOp JOp seqQ blockQ loopQ retQ slc cel hex star pur stars Does RV Ent pAt scopeQ
theorem shaN_ok (E : World) [hE : LaidE E] : Does Tryz.prog E 167 [] [] fun v L => ∃ p, v = .pointer (some ⟨p, 0, none⟩) ∧ L = [cel p (stL shaF SV.nil 0) 205] := by
 refine Does.of Tryz.func167 rfl Tryz.ntmps167 rfl rfl fun F => ?_
 refine Xb ?_
 refine XC ?_
 refine Lq (Q_ldGl (vs := [w32 1779033703, w32 3144134277, w32 1013904242, w32 2773480762, w32 1359893119, w32 2600822924, w32 528734635, w32 1541459225]) hE.f rfl rfl) ?_
 refine Xk ?_
 refine L_o rfl rfl rfl (O_box rfl fun b3 => ?_)
 refine Xq ?_
 exact retQ_ret [_] [_] (.cons (RV_tmp rfl) .nil) ⟨b3, rfl, rfl⟩ (Ent.refl _)
theorem shaSum_ok (E : World) [hE : LaidE E] (p : Nat) (hs : List UInt32) (h8 : hs.length = 8) (S : SV) (n : Nat) (l : List UInt8) (hl : l.length < 64) (_ : n ≤ 1152921504606840000) : Does Tryz.prog E 171 [.pointer (some ⟨p, 0, none⟩)] [cel p (stL hs S n) 205, wtC tB S l] fun v L => v = str (shaO hs l n) ∧ L = [cel p (stL hs S n) 205, wtC tB S l] := by
 refine Does.of Tryz.func171 rfl Tryz.ntmps171 rfl rfl fun F => ?_
 refine J.norm ?_
 have he8 := eight h8
 unfold shaO
 generalize hx0 : hs.getD 0 0 = x0 at *
 generalize hs.getD 1 0 = x1 at *
 generalize hs.getD 2 0 = x2 at *
 generalize hs.getD 3 0 = x3 at *
 generalize hs.getD 4 0 = x4 at *
 generalize hs.getD 5 0 = x5 at *
 generalize hs.getD 6 0 = x6 at *
 generalize hs.getD 7 0 = x7 at *
 subst he8
 refine Sr ?_
 refine Xn ?_
 refine XcF ?_
 refine DH [1] [0,1,2,3,4,5,6,7,9,11] (.quiet 0 (.quiet 1 (.quiet 2 (.quiet 3 (.quiet 4 (.quiet 5 (.quiet 6 (.quiet 7 (.loud 8 (.quiet 9 (.loud 10 (.quiet 11 .done)))))))))))) Tryz.mixed ?_
 refine XcE ?_
 refine Xd2 ?_
 refine Sq (Ent.re [1] rfl) rfl (Q_ldS (vs := [w32 x0, w32 x1, w32 x2, w32 x3, w32 x4, w32 x5, w32 x6, w32 x7]) 0 rfl rfl rfl rfl rfl) ?_
 refine XcE ?_
 refine Xd2 ?_
 refine Sq (Ent.re [1] rfl) rfl (Q_ld 0 rfl rfl rfl rfl) ?_
 refine S_o rfl rfl rfl rfl (O_app (τ := tB) (S := SV.nil) 0 rfl (fun w h => h.wt_rd (β := tB) 2 rfl) rfl rfl rfl rfl (by simp; omega) (by decide) (fun S1 => ⟨_, fun _ => ⟨Ent.reN [1] rfl, Ent.refl _⟩, ?_⟩))
 refine Xa ?_
 refine Sq (Ent.re [1] rfl) rfl (Q_build rfl) ?_
 refine S_o rfl rfl rfl rfl (O_box rfl fun b19 => ⟨_, fun _ => ⟨Ent.reN [2] rfl, Ent.refl _⟩, ?_⟩)
 refine Xa ?_
 refine Sq (Ent.re [2] rfl) rfl (Q_assign rfl) ?_
 refine XaY ?_
 have hk : (119 - (l.length : Int)) % 64 = (((119 - l.length) % 64 : Nat) : Int) := by
  omega
 refine Xh ?_
 refine L_o rfl rfl rfl (O_litP (τ := tB) (m := 1) (sz := 1) [128] rfl rfl rfl rfl rfl rfl (by decide) (fun U => ?_))
 refine XaO ?_
 refine XL ?_
 refine Lq (Q_ld 3 rfl rfl rfl rfl) ?_
 refine Lq (Q_len (fun w h => h.wt_rd (β := tB) 4 rfl) rfl) ?_
 refine XcA ?_
 refine Lq (Q_rem rfl rfl (by decide) (by first | exact IntWalk.rem_in _ _ (by omega) | rfl)) ?_
 refine L_o rfl rfl rfl (O_appK tB_enc rfl 0 ((119 - l.length) % 64) 9 rfl rfl rfl hk rfl (by simp; omega) (fun U2 => ?_))
 refine XaJ ?_
 refine Xa4 ?_
 refine J_loop (fun i : Nat × SV => i.1 ≤ 8) (fun i => [(0, .pointer (some ⟨p, 0, none⟩)), (2, str []), (3, .pointer (some ⟨b19, 0, none⟩)), (4, i.2.v), (5, .int .i64 (7 - i.1 : Int))]) (fun i => [slc tB true i.2 (([128] ++ List.replicate ((119 - l.length) % 64) 0) ++ pad8 n i.1), cel b19 (stL [x0, x1, x2, x3, x4, x5, x6, x7] S1 0) 205, slc tB true S1 ([] ++ l), cel p (stL [x0, x1, x2, x3, x4, x5, x6, x7] S n) 205, wtC tB S l, F]) (fun i => 8 - i.1) (0, U2) (Nat.zero_le _) ⟨rfl, rfl, rfl, rfl, rfl, trivial⟩ (by rw [pad8, List.append_nil]; exact Ent.refl _) ?_
 rintro ⟨i, U⟩ hi
 simp only at hi
 by_cases h : i < 8
 ·have e8 : (7 - (i : Int)) * 8 = ((8 * (7 - i) : Nat) : Int) := by omega
  have e8' : 8 * (7 - (i : Int)) = ((8 * (7 - i) : Nat) : Int) := by omega
  have hpl := pad8_len n i
  refine XdX ?_
  refine Ln ?_
  refine Xac ?_
  refine Xl ?_
  refine XL ?_
  refine Lq (Q_ld 3 rfl rfl rfl rfl) ?_
  refine Lq (Q_shlN n 3 rfl rfl rfl rfl (by decide)) ?_
  refine Xd ?_
  refine Lq ((Q_mul rfl rfl (IntWalk.i64_in _ (by omega))).as (v' := .int .i64 ((8 * (7 - i) : Nat) : Int)) (by rw [e8'])) ?_
  refine Lq (Q_shrN (n * 8 % 18446744073709551616) (8 * (7 - i)) rfl rfl rfl rfl (by show 8 * (7 - i) ≤ 64; omega)) ?_
  refine Lq (Q_cvtN8 rfl) ?_
  refine L_o rfl rfl rfl (O_litP (τ := tB) (m := 1) (sz := 1) [UInt8.ofNat (n * 8 % 18446744073709551616 / 2 ^ (8 * (7 - i)))] rfl rfl rfl rfl rfl rfl (by decide) (fun V => ?_))
  refine Xc ?_
  refine L_o rfl rfl rfl (O_app (τ := tB) 1 rfl (fun w h => h.rd 0 rfl) rfl rfl rfl rfl (by simp; omega) (by decide) (fun U2 => ?_))
  refine Xc ?_
  refine Xj ?_
  refine XV ?_
  refine Xe ?_
  refine Lq ((Q_sub rfl rfl (IntWalk.i64_in _ (by omega))).as (v' := .int .i64 (7 - ((i + 1 : Nat) : Int))) (congrArg (Value.int .i64) (by omega))) ?_
  refine Xj ?_
  refine loopQ_normal (i + 1, U2) (by show i + 1 ≤ 8; omega) (by show 8 - (i + 1) < 8 - i; omega) ⟨rfl, rfl, rfl, rfl, rfl, trivial⟩ ?_
  show Ent _ [slc tB true U2 (_ ++ (pad8 n i ++ [_])), _, _, _, _, _]
  rw [← List.append_assoc]
  exact Ent.re [1,2,3,4,5,6] rfl
 ·obtain rfl : i = 8 := by omega
  refine Xw ?_
  refine Lq ((Q_geq rfl rfl).as (v' := .bool false) (congrArg Value.bool (decide_eq_false (by omega)))) ?_
  refine X2 ?_
  refine XaA ?_
  refine J_seq ?_
  have hm : ([128] ++ List.replicate ((119 - l.length) % 64) 0) ++ pad8 n 8 = shaP l.length n := rfl
  rw [List.nil_append]
  simp only
  rw [hm]
  have hml := shaP_len l.length n
  generalize shaP l.length n = m at *
  refine J.ent (Ent.wt (β := tB) 2 rfl) ?_
  refine J.norm ?_
  refine Xl ?_
  refine Xa6 ?_
  refine L_o rfl rfl rfl (O_call [1,2] [0,3,4,5] (shaW_ok E b19 [x0, x1, x2, x3, x4, x5, x6, x7] rfl S1 0 l m (by omega) (by omega)) rfl rfl ?_)
  rintro _ _ ⟨rfl, S2, rfl⟩
  refine XQ ?_
  have hA8 := absD_len [x0, x1, x2, x3, x4, x5, x6, x7] (l ++ m) rfl
  generalize absD [x0, x1, x2, x3, x4, x5, x6, x7] (l ++ m) = A at *
  refine Xh ?_
  refine XA ?_
  refine XL ?_
  refine Lq (Q_ldS (vs := A.map w32) 0 rfl rfl rfl (by rw [List.drop_zero]; exact List.take_left' (by rw [List.length_map, hA8])) (by rw [List.length_map, hA8])) ?_
  refine XJ ?_
  refine XcF ?_
  refine J_loop (fun i : Nat × SV => i.1 ≤ 8) (fun i => [(6, i.2.v), (52, .agg (A.map w32).toArray), (53, .int .i64 (i.1 : Int))]) (fun i => [slc tB true i.2 (w4s (A.take i.1)), cel p (stL [x0, x1, x2, x3, x4, x5, x6, x7] S n) 205, wtC tB S l, F]) (fun i => 8 - i.1) (0, SV.nil) (Nat.zero_le _) ⟨rfl, rfl, rfl, trivial⟩ (Ent.re [0,4,5,6] rfl) ?_
  rintro ⟨i, U⟩ hi
  simp only at hi
  by_cases h : i < 8
  ·have hg := map_get (l := A) (i := i) (by rw [hA8]; exact h)
   have hlw : (w4s (A.take i)).length = 4 * i := by rw [w4s_len, List.length_take, hA8]; omega
   have htk : w4s (A.take (i + 1)) = w4s (A.take i) ++ w4 (A.getD i 0) := by
    rw [List.take_succ_eq_append_getElem (by omega), w4s_app, getD_ok A i 0 (by omega), w4s, w4s, List.append_nil]
   generalize A.getD i 0 = a at *
   refine Xaz ?_
   refine Lq (Q_aiS (v' := w32 a) i rfl rfl rfl h rfl (by rw [Nat.mul_one, List.getElem?_toArray]; exact hg)) ?_
   refine Xbl ?_
   refine Lq (Q_shrW 24 rfl rfl (by decide)) ?_
   refine Lq (Q_cvtW8 rfl) ?_
   refine Xd ?_
   refine Lq (Q_shrW 16 rfl rfl (by decide)) ?_
   refine Lq (Q_cvtW8 rfl) ?_
   refine Xd ?_
   refine Lq (Q_shrW 8 rfl rfl (by decide)) ?_
   refine Lq (Q_cvtW8 rfl) ?_
   refine Xd ?_
   refine Lq (Q_cvtW8 rfl) ?_
   refine L_o rfl rfl rfl (O_litP (τ := tB) (m := 4) (sz := 1) (w4 a) rfl rfl rfl rfl rfl rfl (by decide) (fun V => ?_))
   refine Xc ?_
   refine L_o rfl rfl rfl (O_app (τ := tB) 1 rfl (fun w h => h.rd 0 rfl) rfl rfl rfl rfl (by rw [hlw]; show (4 * i + 4) * 1 ≤ _; omega) (by decide) (fun U2 => ?_))
   refine Xc ?_
   refine Xj ?_
   refine XaS ?_
   refine loopQ_normal (i + 1, U2) (by show i + 1 ≤ 8; omega) (by show 8 - (i + 1) < 8 - i; omega) ⟨rfl, rfl, rfl, trivial⟩ ?_
   simp only [htk]
   exact Ent.re [1,2,3,4] rfl
  ·obtain rfl : i = 8 := by omega
   have htk : A.take 8 = A := List.take_of_length_le (by omega)
   refine Xae ?_
   refine J_seq ?_
   rw [htk]
   refine Xe ?_
   refine Xa6 ?_
   refine Xq ?_
   exact retQ_ret [_] [_, _] (.cons (RV_tmp rfl) .nil) ⟨rfl, rfl⟩ (Ent.re [1,2,3] rfl)
theorem sha_ok (E : World) [hE : LaidE E] (l : List UInt8) (hl : l.length ≤ 1000000000) : Does Tryz.prog E 166 [str l] [] fun v L => v = str (shaS l) ∧ L = [] := by
 refine Does.of Tryz.func166 rfl Tryz.ntmps166 rfl rfl fun F => ?_
 refine Xb ?_
 refine XC ?_
 refine L_o rfl rfl rfl (O_call [] [0] (shaN_ok E) rfl rfl ?_)
 rintro _ _ ⟨p, rfl, rfl⟩
 refine XaJ ?_
 refine XcF ?_
 refine J.ent (Ent.wt (β := tB) 0 rfl) ?_
 refine J.norm ?_
 have h8 := absD_len shaF l shaF_len
 have hrl := absR_len l
 unfold shaS
 refine Xl ?_
 refine L_o rfl rfl rfl (O_call [1,0] [2] (shaW_ok E p shaF rfl SV.nil 0 [] l (by simp; omega) (by omega)) rfl rfl ?_)
 (rw [List.nil_append, Nat.zero_add]; rintro _ _ ⟨rfl, S2, rfl⟩)
 refine Xbn ?_
 refine L_o rfl rfl rfl (O_call [0,1] [2] (shaSum_ok E p _ h8 S2 l.length _ hrl (by omega)) rfl rfl ?_)
 rintro _ _ ⟨rfl, rfl⟩
 refine Xaa ?_
 exact retQ_ret [_] [] (.cons (RV_tmp rfl) .nil) ⟨rfl, rfl⟩ (Ent.re [2] rfl)
end Go.Proofs
/- HMAC: keys filled up, texts joined. -/
set_option autoImplicit false
namespace Go.Proofs
open Go.SL
def mixI (b : UInt8) (l : List UInt8) (i : Nat) : List UInt8 := (l.take i).map (· ^^^ b) ++ l.drop i
theorem mixI_0 (b : UInt8) (l : List UInt8) : mixI b l 0 = l := by simp [mixI]
theorem mixI_all (b : UInt8) (l : List UInt8) : mixI b l l.length = l.map (· ^^^ b) := by simp [mixI]
theorem mixI_len (b : UInt8) (l : List UInt8) (i : Nat) : (mixI b l i).length = l.length := by simp [mixI]; omega
theorem mixI_get (b : UInt8) (l : List UInt8) {i : Nat} (h : i < l.length) : (clB (mixI b l i))[i]? = some (w8 (l.getD i 0)) := by
 unfold clB mixI
 rw [List.getElem?_map, List.getElem?_append_right (by simp; omega), List.length_map, List.length_take, Nat.min_eq_left (by omega), Nat.sub_self, List.getElem?_drop, Nat.add_zero, List.getD_eq_getElem?_getD, List.getElem?_eq_getElem h]
 rfl
theorem mixI_set (b : UInt8) (l : List UInt8) {i : Nat} (h : i < l.length) : (mixI b l i).set i (l.getD i 0 ^^^ b) = mixI b l (i + 1) := by
 unfold mixI
 rw [List.set_append_right _ _ (by simp; omega), List.length_map, List.length_take, Nat.min_eq_left (by omega), Nat.sub_self, List.drop_eq_getElem_cons h, List.set_cons_zero, List.take_succ_eq_append_getElem h, List.map_append, List.append_assoc, getD_ok l i 0 h]
 rfl
/-- A key filled up with zeros. -/
def fill64 (key : List UInt8) : List UInt8 := key ++ List.replicate (64 - key.length) 0
theorem fill64_len (key : List UInt8) (h : key.length ≤ 64) : (fill64 key).length = 64 := by unfold fill64; simp; omega
def padB (key : List UInt8) (b : UInt8) : List UInt8 := (fill64 key).map (· ^^^ b)
theorem padB_len (key : List UInt8) (b : UInt8) (h : key.length ≤ 64) : (padB key b).length = 64 := by unfold padB; rw [List.length_map, fill64_len key h]
theorem fill_copy (key : List UInt8) (_ : key.length ≤ 64) : (clB (List.replicate 64 0)).take 0 ++ (key.take key.length).map (fun b : UInt8 => Value.int .u8 (b.toNat : Int)) ++ (clB (List.replicate 64 0)).drop (0 + key.length) = clB (fill64 key) := by
 unfold clB fill64
 rw [List.take_length, List.map_append, List.take_zero, List.nil_append, Nat.zero_add, ← List.map_drop, List.drop_replicate]
attribute [local irreducible] J JL QOp JOp seqQ blockQ loopQ retQ slc cel hex star pur stars Does RV Ent pAt scopeQ
theorem padded_ok (E : World) (key : List UInt8) (b : UInt8) (h : key.length ≤ 64) : Does Tryz.prog E 169 [str key, w8 b] [] fun v L => v = str (padB key b) ∧ L = [] := by
 refine Does.of Tryz.func169 rfl Tryz.ntmps169 rfl rfl fun F => ?_
 refine J.norm ?_
 have hfl := fill64_len key h
 unfold padB
 refine Sr ?_
 refine XC ?_
 refine L_o rfl rfl rfl (O_allocL (clB (List.replicate 64 0)) (by kernel_rfl) (fun b5 => ?_))
 refine Xr ?_
 refine Sr ?_
 refine Lq (Q_slA 0 64 0 rfl rfl rfl (by decide) (by decide) rfl) ?_
 refine Xd ?_
 refine L_o rfl rfl rfl (O_copyS (q := key.length) (cs' := clB (fill64 key)) 0 rfl rfl rfl (by rw [Nat.min_eq_left]; omega) (by rw [clB_len, List.length_replicate]; omega) (fill_copy key h) ?_)
 refine XQ ?_
 refine Xg ?_
 refine XP ?_
 generalize fill64 key = l at *
 have hL : cel b5 (clB l) 264 = cel b5 (clB (mixI b l 0)) 264 := by rw [mixI_0]
 rw [hL]
 refine J_loop (fun i : Nat => i ≤ 64) (fun i => [(1, w8 b), (5, .pointer (some ⟨b5, 0, none⟩)), (10, .int .i64 (i : Int))]) (fun i => [cel b5 (clB (mixI b l i)) 264, F]) (fun i => 64 - i) 0 (Nat.zero_le _) ⟨rfl, rfl, rfl, trivial⟩ (Ent.refl _) ?_
 intro i hi
 by_cases h : i < 64
 ·have hg := mixI_get b l (i := i) (by omega)
  have hs := mixI_set b l (i := i) (by omega)
  have hml := mixI_len b l i
  generalize l.getD i 0 = x at *
  refine XR ?_
  refine Xi ?_
  refine Xe ?_
  refine Lq (Q_ia (o' := i) i rfl rfl rfl h (by omega)) ?_
  refine Lq (Q_ld 0 rfl rfl rfl hg) ?_
  refine Xd ?_
  refine Lq (Q_xor8 rfl rfl) ?_
  refine Lq (Q_ia (o' := i) i rfl rfl rfl h (by omega)) ?_
  refine L_s rfl rfl (O_stS 0 rfl rfl rfl rfl rfl (by rw [clB_len, hml]; omega) ?_)
  refine Xas ?_
  rw [clB_set, hs]
  refine Xh ?_
  exact XeJ
 ·obtain rfl : i = 64 := by omega
  have hall : mixI b l 64 = l.map (· ^^^ b) := by rw [← mixI_all, hfl]
  have hml := mixI_len b l 64
  rw [hall] at *
  generalize l.map (· ^^^ b) = m at *
  refine Xbk ?_
  refine Lq (Q_slA 0 64 0 rfl rfl rfl (by decide) (by decide) rfl) ?_
  refine Lq (Q_b2s (β := tB) (S := ⟨some ⟨b5, 0, none⟩, 64, 64⟩) (m := m) tB_enc (fun w hs => by have := hs.rdC (τ := tB) (m := m) (c := 64) (o := 0) 0 [] rfl (by rw [clB_flat, List.append_nil]; rfl) (by omega); rw [hml, hfl] at this; exact this) rfl) ?_
  exact XcL
theorem flat_le {α : Type} (l : List (List α)) (k : Nat) : (l.take k).flatten.length ≤ l.flatten.length := by
 conv => rhs; rw [← List.take_append_drop k l, List.flatten_append, List.length_append]
 exact Nat.le_add_right _ _
theorem flat_succ {α : Type} (l : List (List α)) (k : Nat) (h : k < l.length) : (l.take (k + 1)).flatten = (l.take k).flatten ++ l[k] := by
 rw [List.take_succ_eq_append_getElem h, List.flatten_append]; simp
theorem join_ok' (E : World) (f : Bool) (S : SV) (l : List (List UInt8)) (hl : l.length ≤ 100000000) (hs : l.flatten.length ≤ 1000000000) : Does Tryz.prog E 170 [S.v] [slc tS f S l] fun v L => v = str l.flatten ∧ L = [slc tS f S l] := by
 refine Does.of Tryz.func170 rfl Tryz.ntmps170 rfl rfl fun F => ?_
 refine Xb ?_
 refine XC ?_
 refine XA ?_
 refine Xba ?_
 refine XcF ?_
 refine J_loop (fun i : Nat × SV => i.1 ≤ l.length) (fun i => [(3, i.2.v), (6, S.v), (7, .int .i64 (l.length : Int)), (8, .int .i64 (i.1 : Int))])
  (fun i => [slc tB true i.2 ((l.take i.1).flatten), slc tS f S l, F]) (fun i => l.length - i.1) (0, SV.nil) (by simp) ⟨rfl, rfl, rfl, rfl, trivial⟩ (Ent.refl _) ?_
 rintro ⟨k, B⟩ hk
 simp only at hk
 by_cases h : k < l.length
 ·have h1 := flat_succ l k h
  have h2 := flat_le l (k + 1)
  have h3 : ((l.take k).flatten).length + (l[k]).length ≤ l.flatten.length := by
   rw [h1, List.length_append] at h2; exact h2
  refine Xaz ?_
  refine Lq (Q_ixAt 1 k rfl rfl rfl rfl h rfl) ?_
  refine Lq (Q_ldEAt 1 k 0 (v := str l[k]) rfl rfl rfl rfl h (by decide) rfl) ?_
  refine Xbl ?_
  refine L_o rfl rfl rfl (O_appS tB_enc 0 rfl rfl rfl rfl rfl (by show ((l.take k).flatten.length + (l[k]).length) * 1 ≤ _; omega) (by decide) (fun B' => ?_))
  refine Xc ?_
  refine Xj ?_
  refine X8 ?_
  refine XdR ?_
  refine JL_nil ?_
  refine loopQ_normal (k + 1, B') h (by show _ - (k + 1) < _ - k; omega) ⟨rfl, rfl, rfl, rfl, trivial⟩ ?_
  simp only
  rw [h1]
  exact Ent.refl _
 ·obtain rfl : k = l.length := by omega
  refine Sr ?_
  refine Lq ((Q_lss rfl rfl).as (v' := .bool false) (congrArg Value.bool (decide_eq_false ((Int.lt_irrefl _))))) ?_
  refine Xt ?_
  refine Xb6 ?_
  refine Xg ?_
  refine Xa6 ?_
  refine Xq ?_
  exact retQ_ret _ [slc tS f S l] (.cons (RV_tmp rfl) .nil) ⟨by rw [List.take_length]; rfl, rfl⟩ (Ent.re [1,2] rfl)
end Go.Proofs
