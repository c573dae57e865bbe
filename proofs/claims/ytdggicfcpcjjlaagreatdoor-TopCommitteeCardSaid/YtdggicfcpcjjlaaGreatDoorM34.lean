/- Part 34 of the texts below the row: Sl38, Sl40, Sec1, Sec2, Led2, Sl14, CrcP. -/
import Derived.Test.YtdggicfcpcjjlaaGreatDoorM1
import Derived.Test.YtdggicfcpcjjlaaGreatDoorM13
import Derived.Test.YtdggicfcpcjjlaaGreatDoorM15
import Derived.Test.YtdggicfcpcjjlaaGreatDoorM21
import Derived.Test.YtdggicfcpcjjlaaGreatDoorM32
import Derived.Test.YtdggicfcpcjjlaaGreatDoorM33
/- Words of 64 bits as such. -/
set_option autoImplicit false
namespace Go.SL
abbrev w64 (x : UInt64) : Value := .int .u64 (x.toNat : Int)
def cyD (a b c : UInt64) : UInt64 := UInt64.ofNat ((a.toNat + b.toNat + c.toNat) / 18446744073709551616)
theorem cyD_toNat (a b c : UInt64) : (cyD a b c).toNat = (a.toNat + b.toNat + c.toNat) / 18446744073709551616 := by
 have := a.toNat_lt; have := b.toNat_lt; have := c.toNat_lt
 unfold cyD; rw [UInt64.toNat_ofNat']; exact Nat.mod_eq_of_lt (by omega)
theorem cyD_le {a b c : UInt64} (h : c.toNat ≤ 1) : (cyD a b c).toNat ≤ 1 := by
 have := a.toNat_lt; have := b.toNat_lt
 rw [cyD_toNat]; omega
def boD (a b c : UInt64) : UInt64 := if a.toNat < b.toNat + c.toNat then 1 else 0
theorem boD_le (a b c : UInt64) : (boD a b c).toNat ≤ 1 := by unfold boD; split <;> decide
def hiD (a b : UInt64) : UInt64 := UInt64.ofNat (a.toNat * b.toNat / 18446744073709551616)
theorem hiD_toNat (a b : UInt64) : (hiD a b).toNat = a.toNat * b.toNat / 18446744073709551616 := by
 have h1 := a.toNat_lt; have h2 := b.toNat_lt
 have : a.toNat * b.toNat < 18446744073709551616 * 18446744073709551616 := Nat.mul_lt_mul_of_lt_of_le h1 (Nat.le_of_lt h2) (by decide)
 unfold hiD; rw [UInt64.toNat_ofNat']; exact Nat.mod_eq_of_lt (by omega)
section
variable {P : Program} {E : World} {n : Nat} {ρ : Env} {L : List HProp} {dst : Option Tmp} {ty : TypeId} {pos : String} {after : Array Edge} {g : Option (Nat × Bool)} {t t' : Nat} {x y z : Operand} {k' : IntKind} {K : Value → List HProp → Prop} {f : Nat} {ts : Array TypeId}
theorem Q_addD {a b : UInt64} (hx : ρ.ev x = some (w64 a)) (hy : ρ.ev y = some (w64 b)) : QOp P E n ⟨dst, .binOp .add t x y t', ty, pos, after, g⟩ ρ L (w64 (a + b)) :=
 (Q_addN a.toNat b.toNat hx hy rfl rfl).as (by rw [w64, UInt64.toNat_add]; rfl)
theorem Q_mulD {a b : UInt64} (hx : ρ.ev x = some (w64 a)) (hy : ρ.ev y = some (w64 b)) : QOp P E n ⟨dst, .binOp .mul t x y t', ty, pos, after, g⟩ ρ L (w64 (a * b)) :=
 (Q_mul6w a.toNat b.toNat hx hy).as (by rw [w64, UInt64.toNat_mul])
theorem Q_andD {a b : UInt64} (hx : ρ.ev x = some (w64 a)) (hy : ρ.ev y = some (w64 b)) : QOp P E n ⟨dst, .binOp .and t x y t', ty, pos, after, g⟩ ρ L (w64 (a &&& b)) :=
 (Q_andN a.toNat b.toNat hx hy rfl rfl a.toNat_lt b.toNat_lt).as (by rw [w64, UInt64.toNat_and])
theorem Q_orD {a b : UInt64} (hx : ρ.ev x = some (w64 a)) (hy : ρ.ev y = some (w64 b)) : QOp P E n ⟨dst, .binOp .or t x y t', ty, pos, after, g⟩ ρ L (w64 (a ||| b)) :=
 (Q_orN a.toNat b.toNat hx hy rfl rfl a.toNat_lt b.toNat_lt).as (by rw [w64, UInt64.toNat_or])
theorem Q_shlD {a : UInt64} (j : Nat) (hx : ρ.ev x = some (w64 a)) (hy : ρ.ev y = some (.int k' (j : Int))) (hj : j < 64) : QOp P E n ⟨dst, .binOp .shl t x y t', ty, pos, after, g⟩ ρ L (w64 (a <<< UInt64.ofNat j)) :=
 (Q_shlN a.toNat j hx hy rfl rfl (Nat.le_of_lt hj)).as (by
  have e : (UInt64.ofNat j).toNat = j := by rw [UInt64.toNat_ofNat']; exact Nat.mod_eq_of_lt (by omega)
  rw [w64, UInt64.toNat_shiftLeft, e, Nat.mod_eq_of_lt hj, Nat.shiftLeft_eq]; rfl)
theorem Q_shrD {a : UInt64} (j : Nat) (hx : ρ.ev x = some (w64 a)) (hy : ρ.ev y = some (.int k' (j : Int))) (hj : j < 64) : QOp P E n ⟨dst, .binOp .shr t x y t', ty, pos, after, g⟩ ρ L (w64 (a >>> UInt64.ofNat j)) :=
 (Q_shrN a.toNat j hx hy rfl rfl (Nat.le_of_lt hj)).as (by
  have e : (UInt64.ofNat j).toNat = j := by rw [UInt64.toNat_ofNat']; exact Nat.mod_eq_of_lt (by omega)
  rw [w64, UInt64.toNat_shiftRight, e, Nat.mod_eq_of_lt hj, Nat.shiftRight_eq_div_pow])
theorem Q_cvt8D {a : UInt8} {d : Nat} {s : TypeDesc} [u : TyU P t s] [u' : TyU P d (.int .u64)] (hx : ρ.ev x = some (w8 a)) : QOp P E n ⟨dst, .convert t d x, ty, pos, after, g⟩ ρ L (w64 a.toUInt64) :=
 (Q_cvtN (k := .u64) a.toNat hx rfl).as (by rw [w64, UInt8.toNat_toUInt64]; have := a.toNat_lt; rw [Nat.mod_eq_of_lt (by show _ < 18446744073709551616; omega)])
theorem Q_cvtD8 {a : UInt64} {d : Nat} {s : TypeDesc} [u : TyU P t s] [u' : TyU P d (.int .u8)] (hx : ρ.ev x = some (w64 a)) : QOp P E n ⟨dst, .convert t d x, ty, pos, after, g⟩ ρ L (w8 a.toUInt8) :=
 (Q_cvtN (k := .u8) a.toNat hx rfl).as (by rw [w8, UInt64.toNat_toUInt8]; rfl)
theorem Q_andNot {k : IntKind} {a b r : Int} (hx : ρ.ev x = some (.int k a)) (hy : ρ.ev y = some (.int k b)) (hr : k.wrap ((BitVec.ofInt k.bits a &&& ~~~ BitVec.ofInt k.bits b).toNat : Int) = r) : QOp P E n ⟨dst, .binOp .andNot t x y t', ty, pos, after, g⟩ ρ L (.int k r) := fun c w ha _ =>
 run_binOp c w ha hx hy (eqGuard_int ..) (by rw [← hr]; simp [binOp, Op.intBits])
theorem Q_andnD {a b : UInt64} (hx : ρ.ev x = some (w64 a)) (hy : ρ.ev y = some (w64 b)) : QOp P E n ⟨dst, .binOp .andNot t x y t', ty, pos, after, g⟩ ρ L (w64 (a &&& ~~~b)) :=
 Q_andNot hx hy (by
  rw [BitVec.ofInt_natCast, BitVec.ofInt_natCast]
  have e1 : BitVec.ofNat IntKind.u64.bits a.toNat = a.toBitVec := by apply BitVec.eq_of_toNat_eq; rw [BitVec.toNat_ofNat]; exact Nat.mod_eq_of_lt a.toNat_lt
  have e2 : BitVec.ofNat IntKind.u64.bits b.toNat = b.toBitVec := by apply BitVec.eq_of_toNat_eq; rw [BitVec.toNat_ofNat]; exact Nat.mod_eq_of_lt b.toNat_lt
  rw [e1, e2]
  exact wrap_lt .u64 _ (a.toBitVec &&& ~~~b.toBitVec).isLt)
theorem Q_andn8 {a b : UInt8} (hx : ρ.ev x = some (w8 a)) (hy : ρ.ev y = some (w8 b)) : QOp P E n ⟨dst, .binOp .andNot t x y t', ty, pos, after, g⟩ ρ L (w8 (a &&& ~~~b)) :=
 Q_andNot hx hy (by
  rw [BitVec.ofInt_natCast, BitVec.ofInt_natCast]
  have e1 : BitVec.ofNat IntKind.u8.bits a.toNat = a.toBitVec := by apply BitVec.eq_of_toNat_eq; rw [BitVec.toNat_ofNat]; exact Nat.mod_eq_of_lt a.toNat_lt
  have e2 : BitVec.ofNat IntKind.u8.bits b.toNat = b.toBitVec := by apply BitVec.eq_of_toNat_eq; rw [BitVec.toNat_ofNat]; exact Nat.mod_eq_of_lt b.toNat_lt
  rw [e1, e2]
  exact wrap_lt .u8 _ (a.toBitVec &&& ~~~b.toBitVec).isLt)
theorem O_addD (a b c : UInt64) (hf : AddFn P f) (hc : c.toNat ≤ 1) (hx : ρ.ev x = some (w64 a)) (hy : ρ.ev y = some (w64 b)) (hz : ρ.ev z = some (w64 c))
 (hK : K (.tuple #[w64 (a + b + c), w64 (cyD a b c)]) L) : JOp P E n ⟨dst, .call ⟨.value (.func f), #[x, y, z], ts⟩, ty, pos, after, g⟩ K ρ L :=
 O_add64 a.toNat b.toNat c.toNat hf hx hy hz hc (by
  have e1 : (a + b + c).toNat = (a.toNat + b.toNat + c.toNat) % 18446744073709551616 := by rw [UInt64.toNat_add, UInt64.toNat_add]; omega
  rw [← e1, ← cyD_toNat]; exact hK)
theorem O_subD (a b c : UInt64) (hf : SubFn P f) (hc : c.toNat ≤ 1) (hx : ρ.ev x = some (w64 a)) (hy : ρ.ev y = some (w64 b)) (hz : ρ.ev z = some (w64 c))
 (hK : K (.tuple #[w64 (a - b - c), w64 (boD a b c)]) L) : JOp P E n ⟨dst, .call ⟨.value (.func f), #[x, y, z], ts⟩, ty, pos, after, g⟩ K ρ L :=
 O_sub64 a.toNat b.toNat c.toNat hf hx hy hz hc (by
  have h1 := a.toNat_lt; have h2 := b.toNat_lt
  have e1 : (a - b - c).toNat = (a.toNat + 18446744073709551616 - b.toNat - c.toNat) % 18446744073709551616 := by rw [UInt64.toNat_sub, UInt64.toNat_sub]; omega
  have e2 : (boD a b c).toNat = if a.toNat < b.toNat + c.toNat then 1 else 0 := by unfold boD; split <;> rfl
  rw [← e1, ← e2]; exact hK)
end
end Go.SL
namespace Go.Proofs
open Go.SL
theorem mulD_ok (E : World) (a b : UInt64) : Does Tryz.prog E 203 [w64 a, w64 b] [] fun r L => r = .tuple #[w64 (hiD a b), w64 (a * b)] ∧ L = [] := by
 have := mul64_ok E a.toNat b.toNat a.toNat_lt b.toNat_lt
 rwa [← hiD_toNat, ← UInt64.toNat_mul] at this
end Go.Proofs
/- A slice made with room. -/
set_option autoImplicit false
namespace Go.SL
section
variable {α : Type} {τ : Ty α} {P : Program} {E : World} {n : Nat} {ρ : Env} {L : List HProp} {dst : Option Tmp} {ty : TypeId} {pos : String} {after : Array Edge} {g : Option (Nat × Bool)}
theorem O_mkC {K : Value → List HProp → Prop} {t sz by_ : Nat} {z : Value} {x y : Operand} {k k' : IntKind} {i j : Int} (m c : Nat) (a0 : α) [u : TyU P t (.slice τ.e)] [v : TyI P τ.e sz z by_] (hx : ρ.ev x = some (.int k i)) (hy : ρ.ev y = some (.int k' j)) (hi : i = (m : Int)) (hj : j = (c : Int)) (hmc : m ≤ c) (hsz : sz = τ.sz) (hz : z.cells.toList = τ.enc a0)
 (hb : c * by_ ≤ 140737488355328) (hb1 : 1 ≤ by_) (hK : ∀ a, K (SV.v ⟨a, m, c⟩) (slc τ true ⟨a, m, c⟩ (List.replicate m a0) :: L)) : JOp P E n ⟨dst, .makeSlice t x y, ty, pos, after, g⟩ K ρ L := fun a w ha hs next Q hn => by
 obtain ⟨r, hr, hrs, hrz, hrb⟩ := v.get
 subst hi hj
 have hm : c ≤ 140737488355328 := Nat.le_trans (Nat.le_mul_of_pos_right _ hb1) hb
 have hbb : (r.bytes : Int) * (c : Int) ≤ 281474976710656 := by
  rw [hrb, ← Int.natCast_mul, Nat.mul_comm]; omega
 have hrun := run_make (P := P) w t τ.e r z u.h hr hrz k k' m c (by omega) (by omega) hbb (by omega)
 simp only [Int.toNat_natCast, hrs] at hrun
 have hzs : z.cells.size = sz := by rw [← Array.length_toList, hz, τ.len, hsz]
 have hcells : (madeCells z.cells (c * sz)).toList = τ.flat (List.replicate c a0) := by
  rw [τ.flat_replicate, ← hz]
  apply List.ext_getElem?
  intro q
  have hp := τ.pos
  have e0 : z.cells.toList.length = sz := by simp [hzs]
  by_cases hq : q < c * sz
  ·have hqs : q % sz < sz := Nat.mod_lt _ (by omega)
   have e1 : (madeCells z.cells (c * sz)).toList[q]? = some (z.cells[q % sz]!) := by
    simp [madeCells, hq, hzs]
   have : ∀ (m : Nat) (ls : List Value) (q : Nat), 0 < ls.length → q < m * ls.length → (List.replicate m ls).flatten[q]? = ls[q % ls.length]? := by
    intro m
    induction m with
    | zero => intro ls q _ h; simp at h
    | succ m ih =>
     intro ls q hp h
     rw [List.replicate_succ, List.flatten_cons]
     by_cases hlt : q < ls.length
     ·rw [List.getElem?_append_left hlt, Nat.mod_eq_of_lt hlt]
     ·rw [List.getElem?_append_right (by omega), ih _ _ hp (by rw [Nat.add_mul] at h; omega)]
      congr 1
      rw [← Nat.mod_eq_sub_mod (by omega)]
   rw [e1, this c _ q (by omega) (by rw [e0]; exact hq), e0]
   have : q % sz < z.cells.size := by omega
   simp [this]
  ·rw [List.getElem?_eq_none (by simp [madeCells]; omega), List.getElem?_eq_none]
   simp [e0]
   first | omega | (rw [Nat.mul_comm]; omega)
 have hfl := τ.flat_length (List.replicate m a0)
 have hfc := τ.flat_length (List.replicate c a0)
 rw [List.length_replicate] at hfl hfc
 have hsp : τ.flat (List.replicate c a0) = τ.flat (List.replicate m a0) ++ τ.flat (List.replicate (c - m) a0) := by
  rw [← τ.flat_append, List.replicate_append_replicate]; congr 2; omega
 have hsat := hs.new_row (τ := τ) (l := List.replicate m a0) (c := c) (cs := (madeCells z.cells (c * sz)).toList) (by simpa using newed_alloc w (.cells (madeCells z.cells (c * sz)) τ.e)) (.inl (Nat.le_refl _)) (by simpa using hmc) (by rw [hcells, hfc]; exact Nat.le_refl _) (by
  rw [List.length_replicate, hcells, hsp, ← hfl]; exact List.take_left) (by omega)
 unfold Oper.wp
 simp only [execOp, ha.ev hx, ha.ev hy]
 simp only [Sem.run_bind, hrun, Result.andThen_ok, Sem.run_pure]
 rw [List.length_replicate] at hsat
 exact hn _ _ _ (hK (some ⟨w.heap.size, 0, none⟩)) hsat
end
end Go.SL
/- Points as bytes. -/
set_option autoImplicit false
namespace Go.SL
section
variable {α : Type} {τ : Ty α} {P : Program} {E : World} {n : Nat} {ρ : Env} {L : List HProp} {dst : Option Tmp} {ty : TypeId} {pos : String} {after : Array Edge} {g : Option (Nat × Bool)}
/-- s[:hi:max] -/
theorem Q_sl3m (hi mx : Nat) {t sz by_ : Nat} {z : Value} {x b c : Operand} {S : SV} {k' k'' : IntKind} {j m : Int} [u : TyU P t (.slice τ.e)] [v : TyI P τ.e sz z by_] (hx : ρ.ev x = some S.v) (hb : ρ.ev b = some (.int k' j)) (hc' : ρ.ev c = some (.int k'' m))
 (hj : j = (hi : Int)) (hm : m = (mx : Int)) (h2 : hi ≤ mx) (h3 : mx ≤ S.c) : QOp P E n ⟨dst, .slice t x none (some b) (some c), ty, pos, after, g⟩ ρ L (SV.v ⟨S.a, hi, mx⟩) := fun d w hc hs => by
 obtain ⟨r, hr, hs', _⟩ := v.get
 subst hj hm
 simp only [execOp, hc.ev hx, hc.ev hb, hc.ev hc', Option.map_some, Option.map_none]
 have e3 : (mx : Int) ≤ S.c := by omega
 have e2 : (hi : Int) ≤ mx := by omega
 have ha0 : S.a.map (fun a : Addr => a.add 0) = S.a := by cases S.a <;> simp [Addr.add]
 simp [Instr.sliceAt, run_underlying u.h, Instr.slice, Instr.sliceBounds, Go.run_sliceBound, e3, e2, sizeOf, typeInfo, hr, ha0]
end
end Go.SL
namespace Go.Proofs
open Go.SL
def encP (P : Ec.Af Nt.pP) : List UInt8 := UInt8.ofNat (2 + P.y.val % 2) :: bts P.x.val
theorem encP_len (P : Ec.Af Nt.pP) : (encP P).length = 33 := by unfold encP; rw [List.length_cons, bts_len]
def encO : Option (Ec.Af Nt.pP) → List UInt8
 | none => []
 | some P => encP P
def encE : Option (Ec.Af Nt.pP) → Int
 | none => 5
 | some _ => 0
theorem encO_len (A : Option (Ec.Af Nt.pP)) : (encO A).length ≤ 33 := by
 cases A with
 | none => exact Nat.zero_le _
 | some P => exact Nat.le_of_eq (encP_len P)
theorem wf_a (x : Fp) : (wf x).a = x.val % 18446744073709551616 := rfl
attribute [local irreducible] J JL QOp JOp seqQ blockQ loopQ retQ slc cel hex star pur stars Does RV Ent pAt scopeQ
theorem encode_ok (E : World) (p : Pw) (hp : p.ok) : Does Tryz.prog E 18 [p.v] [] fun v L => v = .tuple #[str (encO (own p).p), .int .i64 (encE (own p).p)] ∧ L = [] := by
 have hown := own_ok E p hp
 obtain ⟨x, y, no⟩ := p
 refine Does.of Tryz.func18 rfl Tryz.ntmps18 rfl rfl fun F => ?_
 refine Xb ?_
 refine L_o rfl rfl rfl (O_box rfl fun b1 => ?_)
 refine XaK ?_
 cases hA : (own ⟨x, y, no⟩).p with
 | none =>
  have e : pw (own ⟨x, y, no⟩) = pw0 := pw_none hA
  rw [e] at hown
  refine Xcd ?_
  refine L_o rfl rfl rfl (O_callP (hown) rfl ?_)
  refine XB ?_
  refine XaT ?_
  refine Xm ?_
  refine Sr ?_
  refine Xs ?_
  refine Xa1 ?_
  exact Xff
 | some P =>
  have e : pw (own ⟨x, y, no⟩) = pwA P := pw_some hA
  rw [e] at hown
  have hb := lbytes_ok E (wf P.x) (wf_ok _)
  rw [wf_n] at hb
  have hbl := bts_len P.x.val
  have eE : encO (some P) = [UInt8.ofNat (2 + P.y.val % 2)] ++ bts P.x.val := rfl
  rw [eE]
  generalize bts P.x.val = bb at *
  refine Xcd ?_
  refine L_o rfl rfl rfl (O_callP (hown) rfl ?_)
  refine XB ?_
  refine XaT ?_
  refine Xy ?_
  refine Sr ?_
  refine L_o rfl rfl rfl (O_mkC (τ := tB) 1 33 (0 : UInt8) rfl rfl rfl rfl (by decide) rfl rfl (by decide) (by decide) (fun a => ?_))
  refine XaJ ?_
  have h1 : (wf P.y).a &&& 1 = P.y.val % 2 := by
   have := Nat.and_two_pow_sub_one_eq_mod (wf P.y).a 1
   rw [show (2 : Nat) ^ 1 - 1 = 1 from rfl, show (2 : Nat) ^ 1 = 2 from rfl] at this
   rw [this, wf_a]; omega
  have h2 : (wf P.y).a < 18446744073709551616 := (wf_ok P.y).a
  have hq : ∀ q : Nat, q = P.y.val % 2 → ([(0 : UInt8)].set 0 (UInt8.ofNat (2 + q))) = [UInt8.ofNat (2 + P.y.val % 2)] := fun q e => by rw [e]; rfl
  have hlt : P.y.val % 2 < 2 := Nat.mod_lt _ (by decide)
  have h8 : ∀ q : Nat, q < 2 → (Value.int .u8 (2 + ((UInt8.ofNat q).toNat : Int))) = w8 (UInt8.ofNat (2 + q)) := fun q hq => by
   match q, hq with
   | 0, _ => rfl
   | 1, _ => rfl
  have h9 : ∀ q : Nat, q < 2 → IntKind.u8.wrap (2 + ((UInt8.ofNat q).toNat : Int)) = 2 + ((UInt8.ofNat q).toNat : Int) := fun q hq => by
   match q, hq with
   | 0, _ => rfl
   | 1, _ => rfl
  refine Xe ?_
  refine XD ?_
  refine Lq (Q_ia 0 rfl rfl rfl (by decide) rfl) ?_
  refine XE ?_
  refine Lq ((Q_andN (k := .u64) (wf P.y).a 1 rfl rfl rfl rfl h2 (by decide)).as (v' := u64 (P.y.val % 2)) (congrArg (fun n : Nat => Value.int .u64 (n : Int)) h1)) ?_
  refine Lq (Q_cvtN8 rfl) ?_
  refine Lq ((Q_add rfl rfl (h9 _ hlt)).as (h8 _ hlt)) ?_
  refine Lq (Q_ixAt 0 0 rfl rfl rfl rfl (by decide) rfl) ?_
  refine L_s rfl rfl (O_stE 0 0 0 (UInt8.ofNat (2 + P.y.val % 2)) rfl rfl rfl rfl rfl rfl (tB.one _) (by decide) (Nat.le_refl 1) (by simp [tB, Value.cells]) ?_)
  refine XQ ?_
  refine DH [1] [0,1,2,3,6] (.quiet 0 (.quiet 1 (.quiet 2 (.quiet 3 (.loud 4 (.loud 5 (.quiet 6 .done))))))) Tryz.mixed ?_
  refine XcE ?_
  refine Sq (Ent.re [1] rfl) rfl (Q_sl3m (τ := tB) (S := ⟨a, 1, 33⟩) 1 33 rfl rfl rfl rfl rfl (by decide) (Nat.le_refl _)) ?_
  refine Sq (Ent.re [1] rfl) rfl (Q_fa0 rfl) ?_
  refine Sq (Ent.re [1] rfl) rfl (Q_ldA 0 rfl rfl rfl) ?_
  refine S_o rfl rfl rfl rfl (O_callP (hb) rfl ⟨_, fun _ => ⟨Ent.reN [1] rfl, Ent.refl _⟩, ?_⟩)
  refine Xa ?_
  refine S_o rfl rfl rfl rfl (O_appS tB_enc 0 rfl rfl rfl rfl rfl (by rw [List.length_set, List.length_replicate, hbl]; decide) (by decide) (fun S2 => ⟨_, fun _ => ⟨Ent.reN [1] rfl, Ent.refl _⟩, ?_⟩))
  refine Xa ?_
  refine Sq (Ent.re [1] rfl) rfl (Q_assign rfl) ?_
  refine Xu ?_
  refine Xg ?_
  refine Xa6 ?_
  refine Xs ?_
  exact XdP
end Go.Proofs
/- Points out of bytes. -/
set_option autoImplicit false
namespace Go.Proofs
open Go.SL
attribute [local irreducible] J JL QOp JOp seqQ blockQ loopQ retQ slc cel hex star pur stars Does RV Ent pAt scopeQ
theorem decode_ok (E : World) (P : Ec.Af Nt.pP) (hP : P.y * P.y = sideF P.x) : Does Tryz.prog E 84 [str (encP P)] [] fun v L => v = .tuple #[(pwA P).v, .int .i64 0] ∧ L = [] := by
 refine Does.of Tryz.func84 rfl Tryz.ntmps84 rfl rfl fun F => ?_
 refine J.norm ?_
 have hl := encP_len P
 have hd : (encP P).drop 1 = bts P.x.val := rfl
 have hbl := bts_len P.x.val
 have hf := lfrom_ok E (bts P.x.val) hbl
 rw [numB_bts (fp_lt P.x)] at hf
 have hwx : W4.of P.x.val = wf P.x := rfl
 rw [hwx] at hf
 have hside := side_ok E (wf P.x) (wf_ok _)
 rw [fv_wf] at hside
 have hsq := fsqrt_ok E (wf (sideF P.x)) (wf_ok _)
 obtain ⟨q1, q2⟩ := sqrt_of (y := P.y) (s := wf (sideF P.x)) (by rw [hP])
 rw [q1, q2] at hsq
 have hval := fvalid_ok E (wf P.x) (wf_ok _)
 rw [decide_eq_true (wf_lt P.x)] at hval
 have h0 : ∀ h : 0 < (encP P).length, (encP P)[0] = UInt8.ofNat (2 + P.y.val % 2) := fun _ => rfl
 have hor : ∀ q : Nat, q < 2 → ((UInt8.ofNat (2 + q) ||| 1).toNat : Int) = 3 := fun q hq => by
  match q, hq with
  | 0, _ => rfl
  | 1, _ => rfl
 have hlt : P.y.val % 2 < 2 := Nat.mod_lt _ (by decide)
 have e0 : (encP P)[0]'(by omega) = UInt8.ofNat (2 + P.y.val % 2) := rfl
 refine Sr ?_
 refine L_o rfl rfl rfl (O_alloc fun b2 => ?_)
 refine XA ?_
 refine XN ?_
 refine Lq ((Q_neq rfl rfl).as (v' := .bool false) (congrArg Value.bool (decide_eq_false ((by rw [hl]; decide))))) ?_
 refine Xy ?_
 refine Xw ?_
 refine Lq ((Q_sindex 0 rfl rfl rfl (by omega)).as (v' := w8 (UInt8.ofNat (2 + P.y.val % 2))) rfl) ?_
 refine Lq (Q_or8 (b := 1) rfl rfl) ?_
 refine Lq ((Q_neq rfl rfl).as (v' := .bool false) (congrArg Value.bool (decide_eq_false ((fun h => h (hor _ hlt)))))) ?_
 refine Xag ?_
 refine Lq (Q_ssL 1 rfl rfl rfl (by omega)) ?_
 refine L_o rfl rfl rfl (O_callP (hf) rfl ?_)
 refine XK ?_
 refine L_o rfl rfl rfl (O_alloc fun b4 => ?_)
 refine Xz ?_
 refine Xi ?_
 refine Xo ?_
 refine L_o rfl rfl rfl (O_callP (hside) rfl ?_)
 refine L_o rfl rfl rfl (O_callP (hsq) rfl ?_)
 refine XK ?_
 refine L_o rfl rfl rfl (O_alloc fun b6 => ?_)
 refine Xz ?_
 refine XA ?_
 refine XbO ?_
 refine Xd ?_
 refine XI ?_
 refine L_o rfl rfl rfl (O_callP (hval) rfl ?_)
 refine XbO ?_
 refine XbU ?_
 refine J_seq ?_
 by_cases hy : P.y.val % 2 = 0
 ·rw [if_pos hy]
  refine Xe ?_
  refine Lq ((Q_sindex 0 rfl rfl rfl (by omega)).as (v' := w8 2) (congrArg w8 (by rw [e0, hy]; rfl))) ?_
  refine Lq ((Q_eql rfl rfl).as (v' := .bool false) (congrArg Value.bool (decide_eq_false ((by decide))))) ?_
  refine Xy ?_
  refine XbT ?_
  refine Xk ?_
  exact Xe1
 ·rw [if_neg hy]
  have hy1 : P.y.val % 2 = 1 := by omega
  have hneg := fneg0F E (-P.y)
  rw [fp_neg_neg] at hneg
  refine Xe ?_
  refine Lq ((Q_sindex 0 rfl rfl rfl (by omega)).as (v' := w8 3) (congrArg w8 (by rw [e0, hy1]; rfl))) ?_
  refine Lq ((Q_eql rfl rfl).as (v' := .bool true) (congrArg Value.bool (decide_eq_true ((by decide))))) ?_
  refine Xm ?_
  refine Xh ?_
  refine Xk ?_
  refine X1 ?_
  refine L_o rfl rfl rfl (O_callP (hneg) rfl ?_)
  refine XG ?_
  refine XbT ?_
  refine Xk ?_
  exact Xe1
end Go.Proofs
/- The catalogue: a key, a file put; a file given. -/
set_option autoImplicit false
namespace Go.Proofs
open Go.SL
attribute [local irreducible] J JL QOp JOp seqQ blockQ loopQ retQ slc cel hex star pur stars Does RV Ent pAt scopeQ JR seqR endR JLI DoesY
section
variable (E : World)
theorem lins_ok (S U : SV) (f : Fl) : Does Tryz.prog E 156 [S.v, .int .i64 0, U.v] [slc tFl true S [], slc tFl true U [f]] fun v L => ∃ T : SV, v = T.v ∧ L = [slc tFl true T [f]] := by
 refine Does.of Tryz.func156 rfl Tryz.ntmps156 rfl rfl fun F => ?_
 refine Xb ?_
 refine XT ?_
 refine Lq (Q_slL (τ := tFl) 0 (fun w h => h.rd 0 rfl) rfl rfl rfl (Nat.zero_le _) rfl) ?_
 refine Ln ?_
 refine Xg ?_
 refine XX ?_
 refine XA ?_
 refine Xbo ?_
 refine Xag ?_
 refine XO ?_
 refine Xn ?_
 refine Xv ?_
 refine Xai ?_
 refine Xm ?_
 refine Xv ?_
 refine L_o rfl rfl rfl (O_app (τ := tFl) 0 rfl (fun w h => h.rd 1 rfl) rfl rfl rfl rfl (by show (0 + 1) * 40 ≤ 140737488355328; decide) (by decide) (fun T => ?_))
 refine Xc ?_
 refine Xap ?_
 exact retQ_ret _ [slc tFl true T [f]] (.cons (RV_tmp rfl) .nil) ⟨T, rfl, rfl⟩ (Ent.re [0,2] rfl)
/-- In one that is it. -/
theorem lbin1_ok (S : SV) (f : Fl) : Does Tryz.prog E 162 [S.v, str f.name, .func (.func 163) #[] #[]] [slc tFl true S [f]] fun v L => v = .tuple #[.int .i64 0, .bool true] ∧ L = [slc tFl true S [f]] := by
 have h1 := lfind1_ok E f f.name
 rw [cmp_self] at h1
 refine Does.of Tryz.func162 rfl Tryz.ntmps162 rfl rfl fun F => ?_
 refine Xb ?_
 refine Xam ?_
 refine XO ?_
 refine Xx ?_
 refine Xs ?_
 refine X5 ?_
 refine J_loop (fun j : Nat => j ≤ 1) (fun j => [(0, S.v), (1, str f.name), (2, .func (.func 163) #[] #[]), (8, .int .i64 1), (9, .int .i64 0), (10, .int .i64 (j : Int))]) (fun _ => [slc tFl true S [f], F]) (fun j => j) 1 (Nat.le_refl _) ⟨rfl, rfl, rfl, rfl, rfl, rfl, trivial⟩ (Ent.refl _) ?_
 intro j hj
 by_cases h : 0 < j
 ·obtain rfl : j = 1 := by omega
  refine Xad ?_
  refine XbV ?_
  refine Ln ?_
  refine J_condT rfl ?_
  refine XS ?_
  refine J_block ?_
  refine Xv ?_
  refine Lq ((Q_add rfl rfl (by rfl)).as (v' := .int .i64 1) rfl) ?_
  refine Lq ((Q_cvt rfl (by rfl)).as (v' := .int .u64 1) rfl) ?_
  refine Lq ((Q_shr rfl rfl (by decide) (by rfl)).as (v' := .int .u64 0) rfl) ?_
  refine Lq ((Q_cvt rfl (by rfl)).as (v' := .int .i64 0) rfl) ?_
  refine Xx ?_
  refine Xf ?_
  refine XfJ ?_
  refine XfL ?_
  rintro _ _ ⟨rfl, rfl⟩
  refine Xc ?_
  refine Xat ?_
  refine X2 ?_
  refine Xe ?_
  refine Xj ?_
  refine blockQ_normal ?_
  exact loopQ_normal 0 (Nat.zero_le _) (by decide) ⟨rfl, rfl, rfl, rfl, rfl, rfl, trivial⟩ (Ent.refl _)
 ·obtain rfl : j = 0 := by omega
  refine Xad ?_
  refine Xat ?_
  refine X2 ?_
  refine XaA ?_
  refine Xg ?_
  refine Xf ?_
  refine XbV ?_
  refine Xf ?_
  refine Xf ?_
  refine XfJ ?_
  refine XfL ?_
  rintro _ _ ⟨rfl, rfl⟩
  refine Xc ?_
  refine Xai ?_
  refine Xah ?_
  exact XfE
variable (p : Nat) (k : List UInt8) (S : SV)
theorem lfind0_ok (s : List UInt8) : Does Tryz.prog E 120 [.pointer (some ⟨p, 0, none⟩), str s] [cel p (lgL k S) 172, slc tFl true S []] fun v L => v = .tuple #[.int .i64 0, .bool false] ∧ L = [cel p (lgL k S) 172, slc tFl true S []] := by
 have h := lbin0_ok E S s
 refine Does.of Tryz.func120 rfl Tryz.ntmps120 rfl rfl fun F => ?_
 refine Xb ?_
 refine Xam ?_
 refine X9 ?_
 refine L_o rfl rfl rfl (O_call [1] [0,2] h rfl rfl ?_)
 rintro _ _ ⟨rfl, rfl⟩
 refine Xc ?_
 refine Xcm ?_
 exact Xfz
theorem lfind2_ok (f : Fl) : Does Tryz.prog E 120 [.pointer (some ⟨p, 0, none⟩), str f.name] [cel p (lgL k S) 172, slc tFl true S [f]] fun v L => v = .tuple #[.int .i64 0, .bool true] ∧ L = [cel p (lgL k S) 172, slc tFl true S [f]] := by
 have h := lbin1_ok E S f
 refine Does.of Tryz.func120 rfl Tryz.ntmps120 rfl rfl fun F => ?_
 refine Xb ?_
 refine Xam ?_
 refine X9 ?_
 refine L_o rfl rfl rfl (O_call [1] [0,2] h rfl rfl ?_)
 rintro _ _ ⟨rfl, rfl⟩
 refine Xc ?_
 refine Xcm ?_
 exact Xfz
theorem lget_ok (f : Fl) : Does Tryz.prog E 71 [.pointer (some ⟨p, 0, none⟩), str f.name] [cel p (lgL k S) 172, slc tFl true S [f]] fun v L => v = .tuple #[.agg (flL f).toArray, .int .i64 0] ∧ L = [cel p (lgL k S) 172, slc tFl true S [f]] := by
 have h := lfind2_ok E p k S f
 refine Does.of Tryz.func71 rfl Tryz.ntmps71 rfl rfl fun F => ?_
 refine Xb ?_
 refine L_o rfl rfl rfl (O_alloc fun b4 => ?_)
 refine XbI ?_
 refine Xy ?_
 refine Xv ?_
 refine L_o rfl rfl rfl (O_call [1,2] [0,3] h rfl rfl ?_)
 rintro _ _ ⟨rfl, rfl⟩
 refine XH ?_
 refine Xbm ?_
 refine XbO ?_
 refine Xag ?_
 refine X9 ?_
 refine Lq (Q_ixAt 1 0 rfl rfl rfl rfl Nat.zero_lt_one rfl) ?_
 refine Lq (Q_ldEAAt 1 0 0 (vs := flL f) rfl rfl rfl rfl Nat.zero_lt_one (Nat.le_refl 3) rfl) ?_
 refine XbW ?_
 refine Xaa ?_
 exact retQ_ret _ [_, _] (.cons (RV_cell 2 rfl rfl rfl rfl) (.cons (RV_tmp rfl) .nil)) ⟨rfl, rfl⟩ (Ent.re [0,1,3] rfl)
/-- A command. -/
abbrev cmL (kd e : Nat) (n b : List UInt8) : List Value := [.int .i64 (kd : Int), .int .i64 (e : Int), str n, str b]
abbrev cmV (kd e : Nat) (n b : List UInt8) : Value := .agg (cmL kd e n b).toArray
theorem lkey_ok (P : Ec.Af Nt.pP) (hP : P.y * P.y = sideF P.x) : Does Tryz.prog E 109 [.pointer (some ⟨p, 0, none⟩), cmV 1 0 [] (encP P)] [cel p (lgL [] S) 172] fun v L => v = .int .i64 0 ∧ L = [cel p (lgL (encP P) S) 172] := by
 have hd := decode_ok E P hP
 generalize encP P = b at *
 refine Does.of Tryz.func109 rfl Tryz.ntmps109 rfl rfl fun F => ?_
 refine Xb ?_
 refine L_o rfl rfl rfl (O_box rfl fun b3 => ?_)
 refine Xi ?_
 refine X5 ?_
 refine J_seq ?_
 refine DH [0,1] [0,1,2,3,4,5,6,7] (.quiet 0 (.quiet 1 (.quiet 2 (.quiet 3 (.quiet 4 (.quiet 5 (.quiet 6 (.quiet 7 .done)))))))) Tryz.mixed ?_
 refine XcK ?_
 refine XaC ?_
 refine Xd7 ?_
 refine Sq (Ent.re [0,1] rfl) rfl ((Q_leq rfl rfl).as (v' := .bool false) rfl) ?_
 refine Sq (Ent.re [0,1] rfl) rfl (Q_assign rfl) ?_
 refine Xax ?_
 refine J_seq ?_
 refine DH [0,1] [0,1,2,3,4,5,6,7,8] (.quiet 0 (.quiet 1 (.quiet 2 (.quiet 3 (.quiet 4 (.quiet 5 (.quiet 6 (.quiet 7 (.quiet 8 .done))))))))) Tryz.mixed ?_
 refine XaC ?_
 refine XcK ?_
 refine Xcn ?_
 refine Sq (Ent.re [0,1] rfl) rfl (Q_ia (o' := 0) 0 rfl rfl rfl (by decide) rfl) ?_
 refine Sq (Ent.re [0,1] rfl) rfl (Q_ld 1 rfl rfl rfl rfl) ?_
 refine Sq (Ent.re [0,1] rfl) rfl (Q_sneq rfl rfl) ?_
 refine Sq (Ent.re [0,1] rfl) rfl (Q_assign rfl) ?_
 refine Xax ?_
 refine Xbe ?_
 refine J_seq ?_
 refine XaT ?_
 refine L_o rfl rfl rfl (O_callP (hd) rfl ?_)
 refine XK ?_
 refine L_o rfl rfl rfl (O_alloc fun b5 => ?_)
 refine Xz ?_
 refine Xx ?_
 refine XaQ ?_
 refine J_seq ?_
 refine DH [1,2] [0,1,2,3,4,5,6,7] (.quiet 0 (.quiet 1 (.quiet 2 (.quiet 3 (.quiet 4 (.quiet 5 (.quiet 6 (.quiet 7 (.loud 8 .done))))))))) Tryz.mixed ?_
 refine XcW ?_
 refine XdD ?_
 refine Xen ?_
 refine XdD ?_
 refine Xen ?_
 refine Xdj ?_
 refine Sq (Ent.re [1,2] rfl) rfl (Q_ia (o' := 0) 0 rfl rfl rfl (by decide) rfl) ?_
 refine S_s rfl rfl rfl (O_st1 2 rfl rfl rfl rfl rfl ⟨[], free_no (by kernel_rfl), ?_⟩)
 refine Xbg ?_
 refine Xaf ?_
 exact retQ_ret _ [_] (.cons (RV_tmp rfl) .nil) ⟨rfl, rfl⟩ (Ent.re [2,3] rfl)
theorem lput_ok (f : Fl) (he : f.e = 0) (hk : k ≠ []) : Does Tryz.prog E 110 [.pointer (some ⟨p, 0, none⟩), cmV 2 0 f.name f.body] [cel p (lgL k S) 172, slc tFl true S []] fun v L => ∃ T : SV, v = .int .i64 0 ∧ L = [cel p (lgL k T) 172, slc tFl true T [f]] := by
 obtain ⟨e, nm, bd⟩ := f
 dsimp only at he
 subst he
 have h := lfind0_ok E p k S nm
 have hin := fun U => lins_ok E S U ⟨0, nm, bd⟩
 refine Does.of Tryz.func110 rfl Tryz.ntmps110 rfl rfl fun F => ?_
 refine Xb ?_
 refine L_o rfl rfl rfl (O_box rfl fun b3 => ?_)
 refine Xx ?_
 refine XaF ?_
 refine L_o rfl rfl rfl (O_call [1,2] [0,3] h rfl rfl ?_)
 rintro _ _ ⟨rfl, rfl⟩
 refine XH ?_
 refine Xs ?_
 refine X5 ?_
 refine J_seq ?_
 refine DH [0,2] [0,1,2,3,4,5,6,7] (.quiet 0 (.quiet 1 (.quiet 2 (.quiet 3 (.quiet 4 (.quiet 5 (.quiet 6 (.quiet 7 .done)))))))) Tryz.mixed ?_
 refine Xdf ?_
 refine XeW ?_
 refine Sq (Ent.re [0,2] rfl) rfl (Q_fa0 rfl) ?_
 refine Sq (Ent.re [0,2] rfl) rfl (Q_ld 0 rfl rfl rfl rfl) ?_
 refine Sq (Ent.re [0,2] rfl) rfl ((Q_leq rfl rfl).as (v' := .bool false) rfl) ?_
 refine XcX ?_
 refine Xax ?_
 refine J_seq ?_
 refine DH [0,2] [0,1,2,3,4,5,6,7,8] (.quiet 0 (.quiet 1 (.quiet 2 (.quiet 3 (.quiet 4 (.quiet 5 (.quiet 6 (.quiet 7 (.quiet 8 .done))))))))) Tryz.mixed ?_
 refine XaB ?_
 refine Xdf ?_
 refine Sq (Ent.re [0,2] rfl) rfl (Q_nilCheck rfl) ?_
 refine Sq (Ent.re [0,2] rfl) rfl (Q_fa0 rfl) ?_
 refine Sq (Ent.re [0,2] rfl) rfl (Q_ia (o' := 0) 0 rfl rfl rfl (by decide) rfl) ?_
 refine Sq (Ent.re [0,2] rfl) rfl (Q_ld 0 rfl rfl rfl rfl) ?_
 refine Sq (Ent.re [0,2] rfl) rfl ((Q_seql rfl rfl).as (v' := .bool false) (congrArg Value.bool (decide_eq_false hk))) ?_
 refine XcX ?_
 refine Xax ?_
 refine Xg ?_
 refine XF ?_
 refine Xg ?_
 refine Xaj ?_
 refine Lq ((Q_lenAt 1 rfl rfl).as (v' := .int .i64 0) rfl) ?_
 refine Xcz ?_
 refine XF ?_
 refine Xbe ?_
 refine J_seq ?_
 refine DH [0,2] [0,1,2,3,4,5,6,7,8,9,10,11,12,15,16] (.quiet 0 (.quiet 1 (.quiet 2 (.quiet 3 (.quiet 4 (.quiet 5 (.quiet 6 (.quiet 7 (.quiet 8 (.quiet 9 (.quiet 10 (.quiet 11 (.quiet 12 (.loud 13 (.loud 14 (.quiet 15 (.quiet 16 (.loud 17 .done)))))))))))))))))) Tryz.mixed ?_
 refine XaB ?_
 refine XaB ?_
 refine Sq (Ent.re [0,2] rfl) rfl (Q_nilCheck rfl) ?_
 refine Sq (Ent.re [0,2] rfl) rfl (Q_fa0 rfl) ?_
 refine Sq (Ent.re [0,2] rfl) rfl (Q_ld 0 rfl rfl rfl rfl) ?_
 refine XaB ?_
 refine Xdf ?_
 refine Xdf ?_
 refine Xdf ?_
 refine Sq (Ent.re [0,2] rfl) rfl (Q_build rfl) ?_
 refine S_o rfl rfl rfl rfl (O_litP (τ := tFl) (m := 1) (sz := 3) [⟨0, nm, bd⟩] rfl rfl rfl rfl rfl rfl (by decide) (fun U => ⟨_, fun _ => ⟨Ent.reN [1,3] rfl, Ent.refl _⟩, ?_⟩))
 refine Xa ?_
 refine S_o rfl rfl rfl rfl (O_call [2,0] [1,3,4] (hin U) rfl rfl ?_)
 (rintro _ _ ⟨T, rfl, rfl⟩; refine ⟨_, fun _ => ⟨Ent.reN [1,2] rfl, Ent.refl _⟩, ?_⟩)
 refine Xa ?_
 refine Xdj ?_
 refine Xcp ?_
 refine Xu ?_
 refine Xaf ?_
 exact retQ_ret _ [_, _] (.cons (RV_tmp rfl) .nil) ⟨T, rfl, rfl⟩ (Ent.re [1,0,3] rfl)
end
end Go.Proofs
/- Shifts of whole numbers that are not below zero. -/
set_option autoImplicit false
namespace Go.SL
section
variable {P : Program} {E : World} {n : Nat} {ρ : Env} {L : List HProp} {dst : Option Tmp} {ty : TypeId} {pos : String} {after : Array Edge} {g : Option (Nat × Bool)} {t t' : Nat} {x y : Operand} {k k' : IntKind} {za zb : Int}
theorem Q_shrZ (a j : Nat) (hx : ρ.ev x = some (.int k za)) (hy : ρ.ev y = some (.int k' zb)) (ha : za = (a : Int)) (hb : zb = (j : Int)) (hj : j ≤ k.bits) :
 QOp P E n ⟨dst, .binOp .shr t x y t', ty, pos, after, g⟩ ρ L (.int k ((a / 2 ^ j : Nat) : Int)) := by
 subst ha hb
 refine Q_shr hx hy (by omega) ?_
 rw [Int.toNat_natCast, Nat.min_eq_left hj, Int.fdiv_eq_ediv_of_nonneg _ (by exact_mod_cast Nat.zero_le _)]
 simp
theorem Q_shlZ (a j : Nat) (hx : ρ.ev x = some (.int .i64 za)) (hy : ρ.ev y = some (.int k' zb)) (ha : za = (a : Int)) (hb : zb = (j : Int)) (hj : j ≤ 64) (h : a * 2 ^ j < 9223372036854775808) :
 QOp P E n ⟨dst, .binOp .shl t x y t', ty, pos, after, g⟩ ρ L (.int .i64 ((a * 2 ^ j : Nat) : Int)) := by
 subst ha hb
 refine Q_shl hx hy (by omega) ?_
 rw [Int.toNat_natCast, Nat.min_eq_left (show j ≤ IntKind.i64.bits from hj)]
 have e : ((a : Int) * 2 ^ j) = ((a * 2 ^ j : Nat) : Int) := by simp
 rw [e]
 exact IntWalk.i64_in _ (by omega)
end
end Go.SL
/- The sum of a text, in plain Lean, and that one byte's change changes it. -/
set_option autoImplicit false
namespace Go.Proofs
def crcStep (c : Nat) : Nat := (c / 2) ^^^ (if c % 2 = 1 then 2197175160 else 0)
def crcN : Nat → Nat → Nat
 | 0, c => c
 | k + 1, c => crcStep (crcN k c)
def crcB (c : Nat) (b : UInt8) : Nat := crcN 8 (c ^^^ b.toNat)
def crcMore (c : Nat) (s : List UInt8) : Nat := s.foldl crcB c
def crc (s : List UInt8) : Nat := 4294967295 ^^^ crcMore 4294967295 s
theorem crcStep_lt (c : Nat) (h : c < 2 ^ 32) : crcStep c < 2 ^ 32 := by
 unfold crcStep
 refine Nat.xor_lt_two_pow (by omega) ?_
 split <;> decide
theorem crcN_lt (k c : Nat) (h : c < 2 ^ 32) : crcN k c < 2 ^ 32 := by
 induction k with
 | zero => exact h
 | succ k ih => exact crcStep_lt _ ih
theorem crcB_lt (c : Nat) (b : UInt8) (h : c < 2 ^ 32) : crcB c b < 2 ^ 32 :=
 crcN_lt _ _ (Nat.xor_lt_two_pow h (by have := b.toNat_lt; omega))
theorem crcMore_lt (s : List UInt8) : ∀ c, c < 2 ^ 32 → crcMore c s < 2 ^ 32 := by
 induction s with
 | nil => intro c h; exact h
 | cons b s ih => intro c h; exact ih _ (crcB_lt c b h)
theorem crcMore_take (c : Nat) (s : List UInt8) (k : Nat) (h : k < s.length) : crcMore c (s.take (k + 1)) = crcB (crcMore c (s.take k)) s[k] := by
 unfold crcMore
 rw [List.take_succ_eq_append_getElem h, List.foldl_append]
 rfl
theorem crcMore_append (c : Nat) (s t : List UInt8) : crcMore c (s ++ t) = crcMore (crcMore c s) t := by
 unfold crcMore; rw [List.foldl_append]
end Go.Proofs
