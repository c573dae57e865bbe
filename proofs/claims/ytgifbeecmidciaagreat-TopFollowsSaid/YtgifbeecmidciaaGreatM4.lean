/- Part 4 of the texts below the row: Sl20, Sl22, Sl11, Sl12, Sl13. -/
import Derived.MapKept
import Derived.Laws.Strings3
import Derived.Laws.DeepStrings4
import Derived.Laws.StructEq
import Derived.Test.YtgifbeecmidciaaGreatM3
/- The operations on maps. -/
set_option autoImplicit false
namespace Go.SL
/-- The block r is the map of these pairs. -/
def mpC {κ β : Type} [DecidableEq κ] (M : MTy κ β) (r : Nat) (l : List (κ × β)) : HProp := fun _ h => ∃ (es : Array MapEntry) (clock : Nat), h r = some (.map es clock) ∧ mrow M es.toList l ∧ (∀ x ∈ es.toList, x.born < clock) ∧ (es.toList.map (·.born)).Nodup
section
variable {κ β : Type} [DecidableEq κ] {M : MTy κ β} {P : Program} {E : World} {n : Nat} {ρ : Env} {L : List HProp} {dst : Option Tmp} {ty : TypeId} {pos : String} {after : Array Edge} {g : Option (Nat × Bool)}
theorem gobj {r : Nat} {es : Array MapEntry} {clock : Nat} {w : World} (hb : w.heap[r]? = some (.map es clock)) : (getObj r).run P w = .ok (.map es clock) w := by simp [getObj, Sem.run, hb]
theorem sobj {r : Nat} {es : Array MapEntry} {clock : Nat} {w : World} (o : Obj) (hb : w.heap[r]? = some (.map es clock)) : (setObj r o).run P w = .ok () { w with heap := w.heap.setIfInBounds r o } := by
 simp only [setObj, Sem.run, hb]
theorem run_checkKey_plain (M : MTy κ β) [u : TyU P M.kt M.kd] (e : Bool) (k : κ) (w : World) : (Instr.checkKey e 10000 M.kt (M.kenc k)).run P w = .ok () w := by
 have hs := M.same k k
 rcases M.plain with ⟨q, hq⟩ | hq
 ·rw [hq] at hs
  have hu := u.h
  rw [hq] at hu
  rw [show (10000 : Nat) = 9999 + 1 from rfl, Instr.checkKey]
  simp only [Sem.run_bind, run_underlying hu, Result.andThen_ok]
  cases hk : M.kenc k <;> simp [hk, Instr.sameNow] at hs ⊢
 ·rw [hq] at hs
  have hu := u.h
  rw [hq] at hu
  rw [show (10000 : Nat) = 9999 + 1 from rfl, Instr.checkKey]
  simp only [Sem.run_bind, run_underlying hu, Result.andThen_ok]
  cases hk : M.kenc k <;> simp [hk, Instr.sameNow] at hs ⊢
theorem run_findKey (M : MTy κ β) [u : TyU P M.kt M.kd] (k : κ) {es : List MapEntry} {l : List (κ × β)} (h : mrow M es l) (w : World) : (Instr.findKey M.kt (M.kenc k) es).run P w = .ok ((midx l k).bind fun j => (mget l k).map fun v => (j, M.venc v)) w := by
 simp only [Instr.findKey, Sem.run_bind, run_underlying u.h, Result.andThen_ok, findNow_eq M k es l 0 h, Nat.zero_add, Sem.run_pure]
theorem find_some {l : List (κ × β)} {k : κ} {v : β} (h : mget l k = some v) : ∃ j, midx l k = some j := by
 have := midx_get l k
 rw [h] at this
 exact Option.isSome_iff_exists.1 this
theorem find_none {l : List (κ × β)} {k : κ} (h : mget l k = none) : midx l k = none := by
 have := midx_get l k
 rw [h] at this
 simpa using this
theorem run_lookup (M : MTy κ β) {t sz by_ : Nat} {z : Value} [ut : TyU P t (.map M.kt M.vt)] [u : TyU P M.kt M.kd] [v : TyI P M.vt sz z by_] (k : κ) (ok : Bool) {r : Nat} {es : Array MapEntry} {clock : Nat} {l : List (κ × β)} {w : World} (hb : w.heap[r]? = some (.map es clock)) (h : mrow M es.toList l) :
 (Instr.lookup t (.map (some r)) (M.kenc k) ok).run P w = .ok (if ok then .tuple #[((mget l k).map M.venc).getD z, .bool (mget l k).isSome] else ((mget l k).map M.venc).getD z) w := by
 obtain ⟨i, hi, _, hz, _⟩ := v.get
 simp only [Instr.lookup, Sem.run_bind, run_underlying ut.h, Result.andThen_ok, gobj hb, Sem.run_pure, run_checkKey_plain M, run_findKey M k h]
 cases hg : mget l k with
 | none =>
  rw [find_none hg]
  cases ok <;> simp [zeroValue, typeInfo, hi, hz]
 | some x =>
  obtain ⟨j, hj⟩ := find_some hg
  rw [hj]
  cases ok <;> simp
/-- m[k] -/
theorem Q_mget (i : Nat) {t sz by_ r : Nat} {z : Value} {x y : Operand} {l : List (κ × β)} (k : κ) [ut : TyU P t (.map M.kt M.vt)] [u : TyU P M.kt M.kd] [v : TyI P M.vt sz z by_] (hL : L[i]? = some (mpC M r l)) (hx : ρ.ev x = some (.map (some r))) (hy : ρ.ev y = some (M.kenc k)) :
 QOp P E n ⟨dst, .lookup t x y false, ty, pos, after, g⟩ ρ L (((mget l k).map M.venc).getD z) := fun a w ha hs => by
 obtain ⟨p, ⟨es, clock, hb, hr, _, _⟩, hw⟩ := hs.at hL
 simp only [execOp, ha.ev hx, ha.ev hy]
 rw [Sem.run_bind, run_lookup M k false (hw r _ hb).2 hr]
 simp
theorem turned_set (w : World) (r : Nat) (o o' : Obj) (h : w.heap[r]? = some o) : Turned w { w with heap := w.heap.setIfInBounds r o' } r o' := by
 have hlt : r < w.heap.size := (Array.getElem?_eq_some_iff.1 h).1
 refine ⟨rfl, rfl, rfl, by simp, fun k hk _ => ?_, ?_⟩
 ·simp [Array.getElem?_setIfInBounds, Ne.symm hk]
 ·simp [Array.getElem?_setIfInBounds, hlt]
theorem mrow_mset : ∀ (es : List MapEntry) (l : List (κ × β)) (k : κ) (v : β) (j : Nat), mrow M es l → midx l k = some j → mrow M (es.modify j fun e => { e with key := M.kenc k, val := M.venc v }) (mset l k v) ∧ (es.modify j fun e => { e with key := M.kenc k, val := M.venc v }).map (·.born) = es.map (·.born) ∧ ∃ e, es[j]? = some e ∧ e.key = M.kenc k
 | [], [], _, _, _, _, h => by simp [midx] at h
 | [], _ :: _, _, _, _, h, _ => by simp [mrow] at h
 | _ :: _, [], _, _, _, h, _ => by simp [mrow] at h
 | e :: es, x :: l, k, v, j, h, hj => by
  have h' := h
  simp only [mrow, List.map_cons, List.cons.injEq, Prod.mk.injEq] at h
  obtain ⟨⟨h1, h2⟩, h3⟩ := h
  simp only [midx] at hj
  simp only [mset]
  split at hj
  ·rename_i hx
   cases hj
   rw [if_pos hx]
   refine ⟨?_, by simp, e, rfl, by rw [h1, hx]⟩
   simp only [List.modify_zero_cons, mrow, List.map_cons]
   rw [show List.map (fun e => (e.key, e.val)) es = List.map (fun x => (M.kenc x.1, M.venc x.2)) l from h3]
  ·rename_i hx
   rw [if_neg hx]
   cases hm : midx l k with
   | none => rw [hm] at hj; cases hj
   | some q =>
    rw [hm] at hj
    cases hj
    obtain ⟨i1, i2, e2, i3, i4⟩ := mrow_mset es l k v q h3 hm
    refine ⟨?_, by simp [i2], e2, by simpa using i3, i4⟩
    simp only [List.modify_succ_cons, mrow, List.map_cons, h1, h2]
    congr 1
theorem mrow_push (es : List MapEntry) (l : List (κ × β)) (k : κ) (v : β) (b : Nat) (h : mrow M es l) (hk : mget l k = none) : mrow M (es ++ [{ key := M.kenc k, val := M.venc v, born := b }]) (mset l k v) := by
 have e : mset l k v = l ++ [(k, v)] := by
  clear h
  induction l with
  | nil => rfl
  | cons x l ih =>
   rw [mget_cons] at hk
   split at hk
   ·cases hk
   ·rename_i hx; simp only [mset, if_neg hx, ih hk, List.cons_append]
 rw [e]
 simp only [mrow, List.map_append, List.map_cons, List.map_nil] at h ⊢
 rw [h]
/-- m[k] = v -/
theorem O_mset (i : Nat) {K : Value → List HProp → Prop} {t r : Nat} {x y z : Operand} {l : List (κ × β)} (k : κ) (v : β) [ut : TyU P t (.map M.kt M.vt)] [u : TyU P M.kt M.kd] (hL : L[i]? = some (mpC M r l)) (hx : ρ.ev x = some (.map (some r))) (hy : ρ.ev y = some (M.kenc k)) (hz : ρ.ev z = some (M.venc v))
 (hK : K undef (L.set i (mpC M r (mset l k v)))) : JOp P E n ⟨none, .mapUpdate t x y z, ty, pos, after, g⟩ K ρ L := fun a w ha hs next Q hn => by
 obtain ⟨p, ⟨es, clock, hb, hr, h1, h2⟩, hw⟩ := hs.at hL
 have hbw := (hw r _ hb).2
 have hfin : ∀ (es' : Array MapEntry) (c' : Nat), mrow M es'.toList (mset l k v) → (∀ x ∈ es'.toList, x.born < c') → (es'.toList.map (·.born)).Nodup → Sat E { w with heap := w.heap.setIfInBounds r (.map es' c') } (L.set i (mpC M r (mset l k v))) := fun es' c' q1 q2 q3 => by
  refine hs.turn_at hL (fun p' ⟨es2, c2, hp2, _⟩ _ => ⟨⟨_, hp2⟩, es', c', by simp, q1, q2, q3⟩) (turned_set w r _ _ hbw)
 have key : ∃ w', (Instr.mapUpdate t (.map (some r)) (M.kenc k) (M.venc v)).run P w = .ok () w' ∧ Sat E w' (L.set i (mpC M r (mset l k v))) := by
  simp only [Instr.mapUpdate, Sem.run_bind, run_underlying ut.h, Result.andThen_ok, gobj hbw, run_checkKey_plain M, run_findKey M k hr]
  cases hg : mget l k with
  | none =>
   rw [find_none hg]
   simp only [Option.bind_none]
   refine ⟨_, sobj _ hbw, hfin _ _ ?_ ?_ ?_⟩
   ·simp only [Array.toList_push]; exact mrow_push _ _ _ _ _ hr hg
   ·intro x hx
    simp only [Array.toList_push, List.mem_append, List.mem_singleton] at hx
    rcases hx with hx | rfl
    ·have := h1 x hx; omega
    ·simp
   ·simp only [Array.toList_push, List.map_append, List.map_cons, List.map_nil]
    rw [List.nodup_append]
    refine ⟨h2, by simp, ?_⟩
    intro x hx y hy
    simp only [List.mem_singleton] at hy
    subst hy
    obtain ⟨e, he, rfl⟩ := List.mem_map.1 hx
    have := h1 e he
    omega
  | some x =>
   obtain ⟨j, hj⟩ := find_some hg
   obtain ⟨m1, m2, e, m3, m4⟩ := mrow_mset es.toList l k v j hr hj
   rw [hj]
   simp only [Option.bind_some, Option.map_some]
   have hej : es[j]? = some e := by simpa using m3
   have hst : (Instr.keyThatStays (((es[j]?).map (·.key)).getD (M.kenc k)) (M.kenc k)).run P w = .ok (M.kenc k) w := by
    rw [hej]
    simp only [Option.map_some, Option.getD_some, m4, Instr.keyThatStays, M.bits, if_true, Sem.run_pure]
   simp only [Sem.run_bind, hst, Result.andThen_ok]
   refine ⟨_, sobj _ hbw, hfin _ _ ?_ ?_ ?_⟩
   ·rw [Array.toList_modify]; exact m1
   ·intro x hx
    rw [Array.toList_modify] at hx
    have hx2 : x.born ∈ (es.toList.modify j fun e => { e with key := M.kenc k, val := M.venc v }).map (·.born) := List.mem_map_of_mem hx
    rw [m2] at hx2
    obtain ⟨e', he', e2⟩ := List.mem_map.1 hx2
    rw [← e2]; exact h1 e' he'
   ·rw [Array.toList_modify, m2]; exact h2
 obtain ⟨w', hr', hs'⟩ := key
 unfold Oper.wp
 simp only [execOp, ha.ev hx, ha.ev hy, ha.ev hz]
 simp only [Sem.run_bind, hr', Result.andThen_ok, Sem.run_pure]
 exact hn _ _ w' hK hs'
/-- make(map[..]..) -/
theorem O_mnew (M : MTy κ β) {K : Value → List HProp → Prop} {t : Nat} (hK : ∀ r, K (.map (some r)) (mpC M r [] :: L)) : JOp P E n ⟨dst, .makeMap t none, ty, pos, after, g⟩ K ρ L := fun c w ha hs next Q hn => by
 unfold Oper.wp
 simp only [execOp, Instr.makeMap, Option.map_none]
 simp only [Sem.run_bind, Sem.run_pure, Result.andThen_ok, run_newObj]
 refine hn _ _ _ (hK w.heap.size) ?_
 refine (hs.newed (newed_alloc w (.map #[] 0))).weaken fun p hp => ⟨#[], 0, hp, rfl, by simp, by simp⟩
end
end Go.SL
/- A range over a map. -/
set_option autoImplicit false
namespace Go.SL
section
variable {κ β : Type} [DecidableEq κ] {M : MTy κ β} {P : Program} {E : World} {n : Nat} {ρ : Env} {L : List HProp} {dst : Option Tmp} {ty : TypeId} {pos : String} {after : Array Edge} {g : Option (Nat × Bool)}
end
theorem blockQ_mono {id : Nat} {Q Q' : Post} (h : ∀ e ρ L, Q e ρ L → Q' e ρ L) : ∀ e ρ L, blockQ id Q e ρ L → blockQ id Q' e ρ L := by
 intro e ρ L hb
 cases e with
 | exit j =>
  simp only [blockQ] at hb ⊢
  cases hj : Nat.beq j id <;> simp only [hj, cond_true, cond_false] at hb ⊢ <;> exact h _ _ _ hb
 | _ => exact h _ _ _ hb
/-- What holds behind a block, told once. -/
theorem J.cut {P : Program} {E : World} {n id : Nat} {c d : Code} {Q : Post} {ρ : Env} {L : List HProp} (M : Post) (h : J P E n c (seqQ P E n d (blockQ id M)) ρ L) (hq : ∀ e ρ L, M e ρ L → Q e ρ L) : J P E n c (seqQ P E n d (blockQ id Q)) ρ L := by
 refine h.mono fun e ρ L he => ?_
 cases e with
 | normal => exact J.mono (show J P E n d (blockQ id M) ρ L from he) (blockQ_mono hq)
 | _ => simp only [seqQ] at he ⊢; exact blockQ_mono hq _ _ _ he
end Go.SL
/- Pieces of strings. -/
set_option autoImplicit false
namespace Go.SL
theorem str_extract (s : List UInt8) (lo hi : Nat) : (⟨s.toArray⟩ : ByteArray).extract lo hi = ⟨((s.take hi).drop lo).toArray⟩ := by
 apply ByteArray.ext
 rw [ByteArray.data_extract, List.extract_toArray, List.extract_eq_take_drop, List.drop_take]
theorem str_size (s : List UInt8) : (⟨s.toArray⟩ : ByteArray).size = s.length := rfl
section
variable {P : Program} {E : World} {n : Nat} {ρ : Env} {L : List HProp} {dst : Option Tmp} {ty : TypeId} {pos : String} {after : Array Edge} {g : Option (Nat × Bool)} {t : Nat} {x a b : Operand} {s : List UInt8} {k k' : IntKind} {i j : Int}
theorem Q_ssLH (lo hi : Nat) [u : TyU P t .string] (hx : ρ.ev x = some (str s)) (ha : ρ.ev a = some (.int k i)) (hb : ρ.ev b = some (.int k' j)) (hi' : i = (lo : Int)) (hj : j = (hi : Int)) (h1 : lo ≤ hi) (h2 : hi ≤ s.length) :
 QOp P E n ⟨dst, .slice t x (some a) (some b) none, ty, pos, after, g⟩ ρ L (str ((s.take hi).drop lo)) := fun c w hc _ => by
 subst hi' hj
 simp only [execOp, hc.ev hx, Option.map_some, hc.ev ha, hc.ev hb, Option.map_none]
 rw [Sem.run_bind, run_sliceAt_string (h := u.h), str, run_slice_string_if w t ⟨s.toArray⟩ k k' lo hi u.h, if_pos ⟨by omega, by rw [str_size]; omega⟩, if_pos ⟨by omega, by omega⟩, Int.toNat_natCast, Int.toNat_natCast, str_extract]; rfl
theorem Q_ssH (hi : Nat) [u : TyU P t .string] (hx : ρ.ev x = some (str s)) (hb : ρ.ev b = some (.int k' j)) (hj : j = (hi : Int)) (h2 : hi ≤ s.length) :
 QOp P E n ⟨dst, .slice t x none (some b) none, ty, pos, after, g⟩ ρ L (str (s.take hi)) := fun c w hc _ => by
 subst hj
 simp only [execOp, hc.ev hx, Option.map_some, hc.ev hb, Option.map_none]
 rw [Sem.run_bind, run_sliceAt_string (h := u.h), str, run_slice_string_to_if w t ⟨s.toArray⟩ k' hi u.h, if_pos ⟨by omega, by rw [str_size]; omega⟩, Int.toNat_natCast, str_extract, List.drop_zero]; rfl
theorem Q_ssL (lo : Nat) [u : TyU P t .string] (hx : ρ.ev x = some (str s)) (ha : ρ.ev a = some (.int k i)) (hi : i = (lo : Int)) (h2 : lo ≤ s.length) :
 QOp P E n ⟨dst, .slice t x (some a) none none, ty, pos, after, g⟩ ρ L (str (s.drop lo)) := fun c w hc _ => by
 subst hi
 simp only [execOp, hc.ev hx, Option.map_some, hc.ev ha, Option.map_none]
 rw [Sem.run_bind, run_sliceAt_string (h := u.h), str, run_slice_string_from_if w t ⟨s.toArray⟩ k lo u.h, if_pos ⟨by omega, by rw [str_size]; omega⟩, Int.toNat_natCast, str_extract, str_size, List.take_length]; rfl
end
end Go.SL
/- Unsigned numbers, as natural ones. -/
set_option autoImplicit false
namespace Go.SL
/-- An unsigned kind. -/
class Uns (k : IntKind) : Prop where
 h : k.signed = false
instance : Uns .u8 := ⟨rfl⟩
instance : Uns .u32 := ⟨rfl⟩
instance : Uns .u64 := ⟨rfl⟩
theorem wrapN (k : IntKind) [u : Uns k] (m : Nat) : k.wrap (m : Int) = ((m % 2 ^ k.bits : Nat) : Int) := by
 have h := u.h
 simp only [IntKind.wrap, h]
 simp [BitVec.ofInt_natCast]
theorem wrap_lt (k : IntKind) [Uns k] (m : Nat) (h : m < 2 ^ k.bits) : k.wrap (m : Int) = (m : Int) := by rw [wrapN, Nat.mod_eq_of_lt h]
section
variable {P : Program} {E : World} {n : Nat} {ρ : Env} {L : List HProp} {dst : Option Tmp} {ty : TypeId} {pos : String} {after : Array Edge} {g : Option (Nat × Bool)} {t t' : Nat} {x y : Operand} {k k' : IntKind} [Uns k] {za zb : Int}
theorem Q_andN (a b : Nat) (hx : ρ.ev x = some (.int k za)) (hy : ρ.ev y = some (.int k zb)) (ha : za = (a : Int)) (hb : zb = (b : Int)) (h1 : a < 2 ^ k.bits) (h2 : b < 2 ^ k.bits) :
 QOp P E n ⟨dst, .binOp .and t x y t', ty, pos, after, g⟩ ρ L (.int k ((a &&& b : Nat) : Int)) := by
 subst ha hb
 refine Q_and hx hy ?_
 rw [BitVec.ofInt_natCast, BitVec.ofInt_natCast, BitVec.toNat_and, BitVec.toNat_ofNat, BitVec.toNat_ofNat, Nat.mod_eq_of_lt h1, Nat.mod_eq_of_lt h2]
 exact wrap_lt k _ (Nat.lt_of_le_of_lt Nat.and_le_left h1)
theorem Q_orN (a b : Nat) (hx : ρ.ev x = some (.int k za)) (hy : ρ.ev y = some (.int k zb)) (ha : za = (a : Int)) (hb : zb = (b : Int)) (h1 : a < 2 ^ k.bits) (h2 : b < 2 ^ k.bits) :
 QOp P E n ⟨dst, .binOp .or t x y t', ty, pos, after, g⟩ ρ L (.int k ((a ||| b : Nat) : Int)) := by
 subst ha hb
 refine Q_or hx hy ?_
 rw [BitVec.ofInt_natCast, BitVec.ofInt_natCast, BitVec.toNat_or, BitVec.toNat_ofNat, BitVec.toNat_ofNat, Nat.mod_eq_of_lt h1, Nat.mod_eq_of_lt h2]
 exact wrap_lt k _ (Nat.or_lt_two_pow h1 h2)
theorem Q_xorN (a b : Nat) (hx : ρ.ev x = some (.int k za)) (hy : ρ.ev y = some (.int k zb)) (ha : za = (a : Int)) (hb : zb = (b : Int)) (h1 : a < 2 ^ k.bits) (h2 : b < 2 ^ k.bits) :
 QOp P E n ⟨dst, .binOp .xor t x y t', ty, pos, after, g⟩ ρ L (.int k ((a ^^^ b : Nat) : Int)) := by
 subst ha hb
 refine Q_xor hx hy ?_
 rw [BitVec.ofInt_natCast, BitVec.ofInt_natCast, BitVec.toNat_xor, BitVec.toNat_ofNat, BitVec.toNat_ofNat, Nat.mod_eq_of_lt h1, Nat.mod_eq_of_lt h2]
 exact wrap_lt k _ (Nat.xor_lt_two_pow h1 h2)
theorem Q_shlN (a j : Nat) (hx : ρ.ev x = some (.int k za)) (hy : ρ.ev y = some (.int k' zb)) (ha : za = (a : Int)) (hb : zb = (j : Int)) (hj : j ≤ k.bits) :
 QOp P E n ⟨dst, .binOp .shl t x y t', ty, pos, after, g⟩ ρ L (.int k ((a * 2 ^ j % 2 ^ k.bits : Nat) : Int)) := by
 subst ha hb
 refine Q_shl hx hy (by omega) ?_
 rw [← wrapN, Int.toNat_natCast, Nat.min_eq_left hj]
 simp
theorem Q_shrN (a j : Nat) (hx : ρ.ev x = some (.int k za)) (hy : ρ.ev y = some (.int k' zb)) (ha : za = (a : Int)) (hb : zb = (j : Int)) (hj : j ≤ k.bits) :
 QOp P E n ⟨dst, .binOp .shr t x y t', ty, pos, after, g⟩ ρ L (.int k ((a / 2 ^ j : Nat) : Int)) := by
 have _ : k.signed = false := Uns.h
 subst ha hb
 refine Q_shr hx hy (by omega) ?_
 rw [Int.toNat_natCast, Nat.min_eq_left hj, Int.fdiv_eq_ediv_of_nonneg _ (by exact_mod_cast Nat.zero_le _)]
 simp
theorem Q_cvtN (a : Nat) {d : Nat} {s : TypeDesc} [u : TyU P t s] [u' : TyU P d (.int k)] (hx : ρ.ev x = some (.int k' za)) (ha : za = (a : Int)) :
 QOp P E n ⟨dst, .convert t d x, ty, pos, after, g⟩ ρ L (.int k ((a % 2 ^ k.bits : Nat) : Int)) := by
 subst ha
 exact Q_cvt hx (wrapN k a)
theorem Q_compl (a : Nat) (hx : ρ.ev x = some (.int k za)) (ha : za = (a : Int)) (h1 : a < 2 ^ k.bits) (hm : k.max = ((2 ^ k.bits - 1 : Nat) : Int)) :
 QOp P E n ⟨dst, .unOp .xor t x, ty, pos, after, g⟩ ρ L (.int k (((2 ^ k.bits - 1) ^^^ a : Nat) : Int)) := fun c w hc _ => by
 subst ha
 have u : k.signed = false := Uns.h
 have e : ((BitVec.ofInt k.bits ((2 ^ k.bits - 1 : Nat) : Int) ^^^ BitVec.ofInt k.bits (a : Int)).toNat : Int) = (((2 ^ k.bits - 1) ^^^ a : Nat) : Int) := by
  rw [BitVec.ofInt_natCast, BitVec.ofInt_natCast, BitVec.toNat_xor, BitVec.toNat_ofNat, BitVec.toNat_ofNat, Nat.mod_eq_of_lt h1, Nat.mod_eq_of_lt (by have := Nat.two_pow_pos k.bits; omega)]
 have h3 : (2 ^ k.bits - 1) ^^^ a < 2 ^ k.bits := Nat.xor_lt_two_pow (by have := Nat.two_pow_pos k.bits; omega) h1
 simp only [execOp, hc.ev hx, Op.unary, u, hm, Op.intBits, e]
 simp
 rw [Nat.mod_eq_of_lt h1, wrap_lt k _ h3]
end
end Go.SL
/- Arrays. -/
set_option autoImplicit false
namespace Go.SL
section
variable {P : Program} {E : World} {n : Nat} {ρ : Env} {L : List HProp} {dst : Option Tmp} {ty : TypeId} {pos : String} {after : Array Edge} {g : Option (Nat × Bool)} {t t' m el sz by_ : Nat} {z : Value} {x y : Operand} {kk : IntKind} {i : Int}
theorem Q_ia (j : Nat) {b o o' : Nat} [u : TyU P t (.array m el)] [v : TyI P el sz z by_] (hx : ρ.ev x = some (.pointer (some ⟨b, o, none⟩))) (hy : ρ.ev y = some (.int kk i)) (hi : i = (j : Int)) (hj : j < m) (ho : o + j * sz = o') :
 QOp P E n ⟨dst, .indexAddr t x y, ty, pos, after, g⟩ ρ L (.pointer (some ⟨b, o', none⟩)) := fun a w ha _ => by
 obtain ⟨r, hr, hs', _⟩ := v.get
 subst hi
 have h1 : (j : Int) < (m : Int) := by omega
 simp only [execOp, ha.ev hx, ha.ev hy]
 simp [Instr.indexAt, asIntOf, run_underlying u.h, Instr.sureAddr, h1, hj, sizeOf, typeInfo, hr, hs', addr_add, ho]
/-- A part of an array's value that is one cell. -/
theorem Q_aiS (j : Nat) {cs : Array Value} {v' : Value} {d : TypeDesc} [u : TyU P t (.array m el)] [u' : TyU P el d] [v : TyI P el sz z by_] (hx : ρ.ev x = some (.agg cs)) (hy : ρ.ev y = some (.int kk i)) (hi : i = (j : Int)) (hj : j < m) (hd : isAggD d = false) (hv : cs[j * sz]? = some v') :
 QOp P E n ⟨dst, .index t x y, ty, pos, after, g⟩ ρ L v' := fun a w ha _ => by
 obtain ⟨r, hr, hs', _⟩ := v.get
 subst hi
 have h1 : (j : Int) < (m : Int) := by omega
 simp only [execOp, ha.ev hx, ha.ev hy]
 simp [Instr.index, asIntOf, run_underlying u.h, h1, hj, sizeOf, typeInfo, hr, hs', part, run_isAgg u'.h, hd, hv]
/-- A part of an array's value that is a struct. -/
theorem Q_aiA (j : Nat) {cs : Array Value} {vs : Array Value} {d : TypeDesc} [u : TyU P t (.array m el)] [u' : TyU P el d] [v : TyI P el sz z by_] (hx : ρ.ev x = some (.agg cs)) (hy : ρ.ev y = some (.int kk i)) (hi : i = (j : Int)) (hj : j < m) (hd : isAggD d = true) (hv : cs.extract (j * sz) (j * sz + sz) = vs) :
 QOp P E n ⟨dst, .index t x y, ty, pos, after, g⟩ ρ L (.agg vs) := fun a w ha _ => by
 obtain ⟨r, hr, hs', _⟩ := v.get
 subst hi
 have h1 : (j : Int) < (m : Int) := by omega
 simp only [execOp, ha.ev hx, ha.ev hy]
 simp [Instr.index, asIntOf, run_underlying u.h, h1, hj, sizeOf, typeInfo, hr, hs', part, run_isAgg u'.h, hd, hv]
/-- Two values are compared. -/
class EqV (P : Program) (t : Nat) (d : Nat) (x y : Value) (b : outParam Bool) : Prop where
 h : ∀ w, (Op.equalIn d t x y).run P w = .ok b w
class EqG (P : Program) (t : Nat) : Prop where
 h : P.eqGuardType P.depth t = false
instance EqV_int (d : Nat) (k : IntKind) (a b : Int) [u : TyU P t (.int k)] : EqV P t (d + 1) (.int k a) (.int k b) (decide (a = b)) := ⟨fun w => by
 rw [run_equalIn_int w d t k k a b u.h]; rfl⟩
theorem EqV_arr3 {k : IntKind} (a b c a' b' c' : Int) [u : TyU P t (.array 3 el)] [u' : TyU P el (.int k)] [v : TyI P el 1 z by_] (d : Nat) :
 EqV P t (d + 2) (.agg #[.int k a, .int k b, .int k c]) (.agg #[.int k a', .int k b', .int k c']) (decide (a = a' ∧ b = b' ∧ c = c')) := ⟨fun w => by
 obtain ⟨r, hr, hs', _⟩ := v.get
 have e : ∀ (n : Nat) (x y : Int) , (Op.equalIn (d + 1) el (.int k x) (.int k y)).run P w = .ok (x == y) w := fun n x y => run_equalIn_int w d el k k x y u'.h
 have hr3 : (Std.Legacy.Range.mk 0 3 1 (by decide) : Std.Legacy.Range) = [0:3] := rfl
 rw [Op.equalIn]
 simp only [Sem.run_bind, run_underlying u.h, Result.andThen_ok, sizeOf, typeInfo, run_program, hr, Sem.run_pure, hs']
 simp only [Std.Legacy.Range.forIn_eq_forIn_range', Std.Legacy.Range.size]
 simp [List.range', part, run_isAgg u'.h, isAggD, e 0]
 by_cases h1 : a = a' <;> by_cases h2 : b = b' <;> by_cases h3 : c = c' <;> simp [h1, h2, h3]⟩
theorem Q_geql {xs ys : Array Value} {b : Bool} (hg : EqG P t) (h : EqV P t 10000 (.agg xs) (.agg ys) b) (hx : ρ.ev x = some (.agg xs)) (hy : ρ.ev y = some (.agg ys)) : QOp P E n ⟨dst, .binOp .eql t x y t', ty, pos, after, g⟩ ρ L (.bool b) := fun c w ha _ =>
 run_binOp c w ha hx hy (run_eqGuard_agg w .eql t x y xs ys hg.h) (by rw [run_eql_struct, h.h w]; rfl)
/-- The parts of an array. -/
theorem Places.arr3 {k : IntKind} [u : TyU P t (.array 3 el)] [v : TyI P el 1 z by_] {z' : Value} {by' : Nat} [v' : TyI P t 3 z' by'] {zero : List Value} (hz : z'.cells = zero.toArray) : Places P t [(0, 1), (1, 1), (2, 1)] zero := ⟨fun w parts cs h => by
 obtain ⟨i, hi, _, hz', _⟩ := v'.get
 obtain ⟨r, hr, hs', _⟩ := v.get
 have key : ∀ (l : List (Nat × Value)) (c0 c1 : Array Value), Instr.fill (fun x => ([(0, 1), (1, 1), (2, 1)] : List (Nat × Nat))[x]?) c0 l = some c1 → Instr.fill (fun i => some (i, 1)) c0 l = some c1 := by
  intro l
  induction l with
  | nil => intro c0 c1 h; exact h
  | cons p l ih =>
   intro c0 c1 h
   obtain ⟨i, v⟩ := p
   match i with
   | 0 => simp only [Instr.fill] at h ⊢; simp at h ⊢; exact ⟨h.1, ih _ _ h.2⟩
   | 1 => simp only [Instr.fill] at h ⊢; simp at h ⊢; exact ⟨h.1, ih _ _ h.2⟩
   | 2 => simp only [Instr.fill] at h ⊢; simp at h ⊢; exact ⟨h.1, ih _ _ h.2⟩
   | j + 3 => simp [Instr.fill] at h
 simp only [Instr.build, Sem.run_bind, zeroValue, typeInfo, run_program, Result.andThen_ok, hi, hz', Sem.run_pure, run_underlying u.h, sizeOf, hr, hs', hz, Nat.mul_one, key _ _ _ (by simpa using h)]⟩
end
section
variable {α : Type} {τ : Ty α} {P : Program} {E : World} {n : Nat} {ρ : Env} {L : List HProp} {dst : Option Tmp} {ty : TypeId} {pos : String} {after : Array Edge} {g : Option (Nat × Bool)}
/-- A slice of values, its parts as they stand. -/
theorem O_litP {K : Value → List HProp → Prop} {t sz by_ : Nat} {z : Value} {ps : List (Nat × Operand)} {m : Nat} {vs : List Value} (l : List α) [u : TyU P t (.slice τ.e)] [v : TyI P τ.e sz z by_] (hp : ((ps.map (·.2)).zipIdx.map fun (x, i) => (i, x)) = ps) (hx : ρ.evs (ps.map (·.2)) = some vs) (hm : m = vs.length) (hsz : sz = τ.sz) (hz : z.cells.size = sz)
 (hl : vs.map (fun v => v.cells.toList) = l.map τ.enc) (h24 : m * sz ≤ 16777216) (hK : ∀ S, K (SV.v S) (slc τ true S l :: L)) : JOp P E n ⟨dst, .buildSlice t m ps.toArray, ty, pos, after, g⟩ K ρ L := by
 have h := O_lit (P := P) (E := E) (n := n) (dst := dst) (ty := ty) (pos := pos) (after := after) (g := g) (t := t) (L := L) l hx hm hsz hz hl h24 hK
 rw [hp] at h
 exact h
end
end Go.SL
