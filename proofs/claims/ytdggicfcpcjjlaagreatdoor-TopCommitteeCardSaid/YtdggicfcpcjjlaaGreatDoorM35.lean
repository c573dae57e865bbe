/- Part 35 of the texts below the row: SnapP, WireP, Wire, Led3, DiskP, Disk, Rec, Ref37b, FrameP. -/
import Derived.Test.YtdggicfcpcjjlaaGreatDoorM1
import Derived.Test.YtdggicfcpcjjlaaGreatDoorM13
import Derived.Test.YtdggicfcpcjjlaaGreatDoorM21
import Derived.Test.YtdggicfcpcjjlaaGreatDoorM34
/- Slots, in plain Lean: their words, whether they are right, which is told. -/
set_option autoImplicit false
namespace Go.Proofs
def be (s : List UInt8) : Nat := s.foldl (fun a b => a * 256 + b.toNat) 0
/-- The word j. -/
def nw (l : List UInt8) (j : Nat) : Nat := be ((l.drop (4 * j)).take 4)
def rightB (l : List UInt8) : Bool := decide (12 ≤ l.length) && (decide (nw l 0 = crc (l.drop 4)) && decide (nw l 2 = (l.length - 12) % 2 ^ 32))
def told (a b : List UInt8) : Int := if rightB b = true ∧ (rightB a = false ∨ nw a 1 < nw b 1) then 1 else if rightB a = true then 0 else -1
def four (n : Nat) : List UInt8 := [UInt8.ofNat (n / 2 ^ 24), UInt8.ofNat (n / 2 ^ 16), UInt8.ofNat (n / 2 ^ 8), UInt8.ofNat n]
end Go.Proofs
/- Texts one behind the other, in plain Lean. -/
set_option autoImplicit false
namespace Go.Proofs
def texts (l : List (List UInt8)) : List UInt8 := l.flatMap fun s => four s.length ++ s
theorem texts_succ (l : List (List UInt8)) (k : Nat) (h : k < l.length) : texts (l.take (k + 1)) = texts (l.take k) ++ (four l[k].length ++ l[k]) := by
 unfold texts
 rw [List.take_succ_eq_append_getElem h, List.flatMap_append]
 simp
theorem texts_le (l : List (List UInt8)) (k : Nat) : (texts (l.take k)).length ≤ (texts l).length := by
 have e : texts l = texts (l.take k) ++ texts (l.drop k) := by
  unfold texts
  rw [← List.flatMap_append, List.take_append_drop]
 rw [e, List.length_append]; omega
end Go.Proofs
/- Texts one behind the other, walked. -/
set_option autoImplicit false
namespace Go.Proofs
open Go.SL
attribute [local irreducible] J JL QOp JOp seqQ blockQ loopQ retQ slc cel hex star pur stars Does RV Ent pAt
def tS : Ty (List UInt8) := ⟨9, 1, fun s => [str s], fun _ => rfl, by decide, fun a v hv => by simp at hv; subst hv; rfl⟩
instance : TyU Tryz.prog tS.e .string := inferInstanceAs (TyU Tryz.prog 9 .string)
instance : TyI Tryz.prog tS.e 1 (.string ⟨#[]⟩) 16 := inferInstanceAs (TyI Tryz.prog 9 1 (.string ⟨#[]⟩) 16)
instance : TyU Tryz.prog 175 (.slice tS.e) := inferInstanceAs (TyU Tryz.prog 175 (.slice 9))
theorem wtext_ok (E : World) (s : List UInt8) (hs : s.length ≤ 100000000) : Does Tryz.prog E 157 [str s] [] fun v L => v = str (four s.length ++ s) ∧ L = [] := by
 refine Does.of Tryz.func157 rfl Tryz.ntmps157 rfl rfl fun F => ?_
 refine XaL ?_
 refine XN ?_
 refine Xx ?_
 refine Lq (Q_shrZ s.length 24 rfl rfl rfl rfl (by decide)) ?_
 refine Lq (Q_cvtN (s.length / 2 ^ 24) rfl rfl) ?_
 refine Xd ?_
 refine Lq (Q_shrZ s.length 16 rfl rfl rfl rfl (by decide)) ?_
 refine Lq (Q_cvtN (s.length / 2 ^ 16) rfl rfl) ?_
 refine Xd ?_
 refine Lq (Q_shrZ s.length 8 rfl rfl rfl rfl (by decide)) ?_
 refine Lq (Q_cvtN (s.length / 2 ^ 8) rfl rfl) ?_
 refine Xd ?_
 refine Lq (Q_cvtN s.length rfl rfl) ?_
 refine L_o rfl rfl rfl (O_litP (τ := tB) (m := 4) (sz := 1) (four s.length) rfl rfl rfl rfl rfl rfl (by decide) (fun S => ?_))
 refine Xc ?_
 refine Xa6 ?_
 refine Xd ?_
 refine Lq (Q_sadd rfl rfl (by simp [four]; omega)) ?_
 exact Xcr
theorem wtexts_ok (E : World) (full : Bool) (S : SV) (l : List (List UInt8)) (hl : l.length ≤ 100000000) (hs : (texts l).length ≤ 100000000) : Does Tryz.prog E 111 [S.v] [slc tS full S l] fun v L => v = str (texts l) ∧ L = [slc tS full S l] := by
 refine Does.of Tryz.func111 rfl Tryz.ntmps111 rfl rfl fun F => ?_
 refine Xb ?_
 refine XC ?_
 refine XA ?_
 refine Xba ?_
 refine XcF ?_
 refine J_loop (fun i : Nat × SV => i.1 ≤ l.length) (fun i => [(3, i.2.v), (6, S.v), (7, .int .i64 (l.length : Int)), (8, .int .i64 (i.1 : Int))])
  (fun i => [slc tB true i.2 (texts (l.take i.1)), slc tS full S l, F]) (fun i => l.length - i.1) (0, SV.nil) (by simp) ⟨rfl, rfl, rfl, rfl, trivial⟩ (Ent.refl _) ?_
 rintro ⟨k, B⟩ hk
 simp only at hk
 refine Sr ?_
 refine Lq (Q_lss rfl rfl) ?_
 refine Xt ?_
 refine J_condD rfl (fun h => ?_) (fun h => ?_)
 ·have hlt : k < l.length := by omega
  have h1 := texts_succ l k hlt
  have h2 := texts_le l (k + 1)
  have h3 : (texts (l.take k)).length + (4 + l[k].length) ≤ (texts l).length := by
   rw [h1] at h2; simp [four] at h2; omega
  refine XS ?_
  refine X5 ?_
  refine Sr ?_
  refine Lq (Q_ixAt 1 k rfl rfl rfl rfl hlt rfl) ?_
  refine Lq (Q_ldEAt 1 k 0 (v := str l[k]) rfl rfl rfl rfl hlt (by decide) rfl) ?_
  refine Xbl ?_
  refine L_o rfl rfl rfl (O_call [] [0,1,2] (wtext_ok E l[k] (by omega)) rfl rfl ?_)
  rintro _ _ ⟨rfl, rfl⟩
  refine Xc ?_
  refine L_o rfl rfl rfl (O_appS tB_enc 0 rfl rfl rfl rfl rfl (by simp [four]; omega) (by decide) (fun B' => ?_))
  refine Xc ?_
  refine Xj ?_
  refine Xa0 ?_
  exact loopQ_normal (k + 1, B') hlt (by simp; omega) ⟨rfl, rfl, rfl, rfl, trivial⟩ (by simp only; rw [h1]; exact Ent.refl _)
 ·obtain rfl : k = l.length := by omega
  refine XaA ?_
  refine Xg ?_
  refine Xa6 ?_
  refine Xq ?_
  exact retQ_ret _ [slc tS full S l] (.cons (RV_tmp rfl) .nil) ⟨by rw [List.take_length]; rfl, rfl⟩ (Ent.re [1,2] rfl)
end Go.Proofs
/- Commands: checked, as bytes, done by a catalogue. -/
set_option autoImplicit false
namespace Go.Proofs
open Go.SL
theorem encP_ne (P : Ec.Af Nt.pP) : encP P ≠ [] := fun h => by
 have := congrArg List.length h
 rw [encP_len] at this
 cases this
/-- May such a command be? -/
structure MayC (kd : Nat) (n b : List UInt8) : Prop where
 k : (kd = 1 ∧ n = [] ∧ b.length = 33) ∨ (kd = 2 ∧ 1 ≤ n.length ∧ n.length ≤ 16 ∧ b.length ≤ 4096)
def cmB (kd : Nat) (n b : List UInt8) : List UInt8 := texts [[UInt8.ofNat kd], [UInt8.ofNat 0], n, b]
theorem cmB_len (kd : Nat) (n b : List UInt8) : (cmB kd n b).length = 18 + n.length + b.length := by
 unfold cmB texts
 simp [four]
 omega
attribute [local irreducible] J JL QOp JOp seqQ blockQ loopQ retQ slc cel hex star pur stars Does RV Ent pAt scopeQ JR seqR endR JLI DoesY
section
variable (E : World)
theorem wcheck_ok (kd : Nat) (n b : List UInt8) (h : MayC kd n b) : Does Tryz.prog E 107 [cmV kd 0 n b] [] fun v L => v = .int .i64 0 ∧ L = [] := by
 rcases h.k with ⟨rfl, rfl, h1⟩ | ⟨rfl, h1, h2, h3⟩
 ·refine Does.of Tryz.func107 rfl Tryz.ntmps107 rfl rfl fun F => ?_
  refine Xb ?_
  refine L_o rfl rfl rfl (O_box rfl fun b1 => ?_)
  refine XC ?_
  refine Xn ?_
  refine XaT ?_
  refine XP ?_
  refine Sr ?_
  refine Xai ?_
  refine XaR ?_
  refine Xh ?_
  refine XaF ?_
  refine Lq ((Q_seql rfl rfl).as (v' := .bool true) rfl) ?_
  refine Xbx ?_
  refine XN ?_
  refine Xfc ?_
  refine XaD ?_
  refine Xj ?_
  refine XV ?_
  refine Xw ?_
  refine XbO ?_
  refine Xbx ?_
  refine Xat ?_
  refine Xp ?_
  refine Xbx ?_
  refine Lq ((Q_gtr rfl rfl).as (v' := .bool false) rfl) ?_
  refine Xan ?_
  refine Sr ?_
  exact Xcr
 ·refine Does.of Tryz.func107 rfl Tryz.ntmps107 rfl rfl fun F => ?_
  refine Xb ?_
  refine L_o rfl rfl rfl (O_box rfl fun b1 => ?_)
  refine XC ?_
  refine Xn ?_
  refine XaT ?_
  refine XP ?_
  refine Sr ?_
  refine Xbo ?_
  refine XF ?_
  refine Sr ?_
  refine Xai ?_
  refine XaR ?_
  refine Xh ?_
  refine XaF ?_
  refine XN ?_
  refine Lq ((Q_geq rfl rfl).as (v' := .bool true) (congrArg Value.bool (decide_eq_true ((by omega))))) ?_
  refine Xbx ?_
  refine XN ?_
  refine XfW ?_
  refine Xbx ?_
  refine XN ?_
  refine XfW ?_
  refine Xj ?_
  refine XV ?_
  refine Xw ?_
  refine XbO ?_
  refine Xbx ?_
  refine Xat ?_
  refine Xp ?_
  refine Xbx ?_
  refine Lq ((Q_gtr rfl rfl).as (v' := .bool false) rfl) ?_
  refine Xan ?_
  refine Sr ?_
  exact Xcr
theorem byte1_ok (n : Nat) : Does Tryz.prog E 112 [.int .i64 (n : Int)] [] fun v L => v = str [UInt8.ofNat n] ∧ L = [] := by
 refine Does.of Tryz.func112 rfl Tryz.ntmps112 rfl rfl fun F => ?_
 refine XaL ?_
 refine Lq (Q_cvtN n rfl rfl) ?_
 refine L_o rfl rfl rfl (O_litP (τ := tB) (m := 1) (sz := 1) [UInt8.ofNat n] rfl rfl rfl rfl rfl rfl (by decide) (fun S => ?_))
 refine Xc ?_
 refine Xa6 ?_
 exact Xcr
theorem wcommand_ok (kd : Nat) (n b : List UInt8) (h : MayC kd n b) : Does Tryz.prog E 64 [cmV kd 0 n b] [] fun v L => v = .tuple #[str (cmB kd n b), .int .i64 0] ∧ L = [] := by
 have hc := wcheck_ok E kd n b h
 have h1 := byte1_ok E kd
 have h2 := byte1_ok E 0
 have hl := cmB_len kd n b
 have ht := fun S => wtexts_ok E true S [[UInt8.ofNat kd], [UInt8.ofNat 0], n, b] (by simp) (by
  have : n.length ≤ 16 ∧ b.length ≤ 4096 := by
   rcases h.k with ⟨_, e, h1⟩ | ⟨_, _, h2, h3⟩
   ·rw [e]; exact ⟨Nat.zero_le _, by omega⟩
   ·exact ⟨h2, h3⟩
  unfold cmB at hl
  rw [hl]; omega)
 unfold cmB
 generalize texts [[UInt8.ofNat kd], [UInt8.ofNat 0], n, b] = x at *
 refine Does.of Tryz.func64 rfl Tryz.ntmps64 rfl rfl fun F => ?_
 refine Xb ?_
 refine L_o rfl rfl rfl (O_box rfl fun b1 => ?_)
 refine XaK ?_
 refine Xo ?_
 refine Xcy ?_
 refine Xx ?_
 refine XaQ ?_
 refine J_seq ?_
 refine DH [0] [0,1,3,4,6,7,8,9,12,13] (.quiet 0 (.quiet 1 (.quiet 3 (.quiet 4 (.quiet 6 (.quiet 7 (.quiet 8 (.quiet 9 (.loud 2 (.loud 5 (.loud 10 (.loud 11 (.quiet 12 (.quiet 13 .done)))))))))))))) Tryz.mixed ?_
 refine XaX ?_
 refine XaX ?_
 refine XaX ?_
 refine XaX ?_
 refine S_o rfl rfl rfl rfl (O_callP (h1) rfl ⟨_, fun _ => ⟨Ent.reN [0] rfl, Ent.refl _⟩, ?_⟩)
 refine Xa ?_
 refine S_o rfl rfl rfl rfl (O_callP (h2) rfl ⟨_, fun _ => ⟨Ent.reN [0] rfl, Ent.refl _⟩, ?_⟩)
 refine Xa ?_
 refine S_o rfl rfl rfl rfl (O_litP (τ := tS) (m := 4) (sz := 1) [[UInt8.ofNat kd], [UInt8.ofNat 0], n, b] rfl rfl rfl rfl rfl rfl (by decide) (fun S => ⟨_, fun _ => ⟨Ent.reN [1] rfl, Ent.refl _⟩, ?_⟩))
 refine Xa ?_
 refine S_o rfl rfl rfl rfl (O_call [0] [1,2] (ht S) rfl rfl ?_)
 (rintro _ _ ⟨rfl, rfl⟩; refine ⟨_, fun _ => ⟨Ent.reN [1] rfl, Ent.refl _⟩, ?_⟩)
 refine Xa ?_
 refine Sq (Ent.re [1] rfl) rfl (Q_assign rfl) ?_
 refine Sq (Ent.re [1] rfl) rfl (Q_assign rfl) ?_
 refine Xu ?_
 refine J_ret ?_
 exact retQ_ret _ [] (.cons (RV_tmp rfl) (.cons (RV_tmp rfl) .nil)) ⟨rfl, rfl⟩ (Ent.re [2] rfl)
variable (p : Nat) (k : List UInt8) (S : SV)
theorem ldoK_ok (P : Ec.Af Nt.pP) (hP : P.y * P.y = sideF P.x) : Does Tryz.prog E 63 [.pointer (some ⟨p, 0, none⟩), cmV 1 0 [] (encP P)] [cel p (lgL [] S) 172] fun v L => v = .int .i64 0 ∧ L = [cel p (lgL (encP P) S) 172] := by
 have hc := wcheck_ok E 1 [] (encP P) ⟨.inl ⟨rfl, rfl, encP_len P⟩⟩
 have hk := lkey_ok E p S P hP
 generalize encP P = b at *
 refine Does.of Tryz.func63 rfl Tryz.ntmps63 rfl rfl fun F => ?_
 refine Xb ?_
 refine L_o rfl rfl rfl (O_box rfl fun b3 => ?_)
 refine XbI ?_
 refine Xay ?_
 refine Xo ?_
 refine Xcy ?_
 refine Xx ?_
 refine XaQ ?_
 refine Sr ?_
 refine Xn ?_
 refine XaT ?_
 refine XP ?_
 refine Sr ?_
 refine Xai ?_
 refine XaR ?_
 refine Xh ?_
 refine Xj ?_
 refine XV ?_
 refine Xv ?_
 refine X1 ?_
 refine L_o rfl rfl rfl (O_dyn (vs := [.pointer (some ⟨p, 0, none⟩), cmV 1 0 [] b]) (fs := #[]) (cs := #[]) [1] [0,2] rfl rfl rfl hk rfl ?_)
 rintro _ _ ⟨rfl, rfl⟩
 refine Xaa ?_
 exact retQ_ret _ [_] (.cons (RV_tmp rfl) .nil) ⟨rfl, rfl⟩ (Ent.re [0,2] rfl)
theorem ldoP_ok (f : Fl) (he : f.e = 0) (hk : k ≠ []) (h1 : 1 ≤ f.name.length) (h2 : f.name.length ≤ 16) (h3 : f.body.length ≤ 4096) : Does Tryz.prog E 63 [.pointer (some ⟨p, 0, none⟩), cmV 2 0 f.name f.body] [cel p (lgL k S) 172, slc tFl true S []] fun v L => ∃ T : SV, v = .int .i64 0 ∧ L = [cel p (lgL k T) 172, slc tFl true T [f]] := by
 have hc := wcheck_ok E 2 f.name f.body ⟨.inr ⟨rfl, h1, h2, h3⟩⟩
 have hk := lput_ok E p k S f he hk
 refine Does.of Tryz.func63 rfl Tryz.ntmps63 rfl rfl fun F => ?_
 refine Xb ?_
 refine L_o rfl rfl rfl (O_box rfl fun b3 => ?_)
 refine XbI ?_
 refine Xay ?_
 refine Xo ?_
 refine Xcy ?_
 refine Xx ?_
 refine XaQ ?_
 refine Sr ?_
 refine Xn ?_
 refine XaT ?_
 refine XP ?_
 refine Sr ?_
 refine Xbo ?_
 refine XF ?_
 refine Sr ?_
 refine Xai ?_
 refine XaR ?_
 refine Xh ?_
 refine Xj ?_
 refine XV ?_
 refine Xv ?_
 refine X1 ?_
 refine L_o rfl rfl rfl (O_dyn (vs := [.pointer (some ⟨p, 0, none⟩), cmV 2 0 f.name f.body]) (fs := #[]) (cs := #[]) [1,2] [0,3] rfl rfl rfl hk rfl ?_)
 rintro _ _ ⟨T, rfl, rfl⟩
 refine Xaa ?_
 exact retQ_ret _ [_, _] (.cons (RV_tmp rfl) .nil) ⟨T, rfl, rfl⟩ (Ent.re [0,1,3] rfl)
end
end Go.Proofs
/- What a disk is, in plain Lean: its bytes, how many are synced, what a crash does. -/
set_option autoImplicit false
namespace Go.Proofs
/-- A disk: its bytes, how many are synced. -/
structure Dk where
 b : List UInt8
 s : Nat
/-- Is the sector that holds byte i kept? -/
def kb (keep s i : Nat) : Bool := decide (i / 64 - s / 64 < 64) && (keep >>> (i / 64 - s / 64) % 2 == 1)
/-- The bytes when the first k that are not synced have been gone over. -/
def torn (keep s : Nat) (b : List UInt8) (k : Nat) : List UInt8 := b.mapIdx fun i x => if s ≤ i ∧ i < s + k ∧ kb keep s i = false then 0 else x
/-- Where what is there ends. -/
def endTo (keep s : Nat) : Nat → Nat
 | 0 => s
 | k + 1 => if kb keep s (s + k) = true then s + k + 1 else endTo keep s k
theorem torn_length (keep s : Nat) (b : List UInt8) (k : Nat) : (torn keep s b k).length = b.length := by simp [torn]
theorem torn_zero (keep s : Nat) (b : List UInt8) : torn keep s b 0 = b := by
 apply List.ext_getElem?; intro i
 simp only [torn, List.getElem?_mapIdx]
 cases b[i]? <;> simp <;> omega
theorem torn_kept (keep s : Nat) (b : List UInt8) (k : Nat) (h : kb keep s (s + k) = true) : torn keep s b (k + 1) = torn keep s b k := by
 apply List.ext_getElem?; intro i
 simp only [torn, List.getElem?_mapIdx]
 cases b[i]? with
 | none => rfl
 | some x =>
  simp only [Option.map_some, Option.some.injEq]
  by_cases e : i = s + k
  ·subst e; simp [h]
  ·have : (s ≤ i ∧ i < s + (k + 1) ∧ kb keep s i = false) ↔ (s ≤ i ∧ i < s + k ∧ kb keep s i = false) := by
    constructor <;> rintro ⟨h1, h2, h3⟩ <;> exact ⟨h1, by omega, h3⟩
   simp only [this]
theorem torn_lost (keep s : Nat) (b : List UInt8) (k : Nat) (h : kb keep s (s + k) = false) : torn keep s b (k + 1) = (torn keep s b k).set (s + k) 0 := by
 apply List.ext_getElem?; intro i
 rw [List.getElem?_set]
 simp only [torn, List.getElem?_mapIdx, List.length_mapIdx]
 by_cases e : s + k = i
 ·subst e
  by_cases hl : s + k < b.length
  ·simp [hl, h]
  ·simp [hl]
 ·simp only [e, if_false]
  cases b[i]? with
  | none => rfl
  | some x =>
   simp only [Option.map_some, Option.some.injEq]
   have : (s ≤ i ∧ i < s + (k + 1) ∧ kb keep s i = false) ↔ (s ≤ i ∧ i < s + k ∧ kb keep s i = false) := by
    constructor <;> rintro ⟨h1, h2, h3⟩ <;> exact ⟨h1, by omega, h3⟩
   simp only [this]
theorem endTo_le (keep s : Nat) : ∀ k, s ≤ endTo keep s k ∧ endTo keep s k ≤ s + k
 | 0 => ⟨Nat.le_refl _, Nat.le_refl _⟩
 | k + 1 => by
  have := endTo_le keep s k
  simp only [endTo]
  split <;> omega
/-- What a crash leaves. -/
def tear (d : Dk) (keep : Nat) : List UInt8 := (torn keep d.s d.b (d.b.length - d.s)).take (endTo keep d.s (d.b.length - d.s))
/-- What is done to a disk. -/
structure Ac where
 kind : Int
 text : List UInt8
 keep : Nat
def doD (d : Dk) (a : Ac) : Dk × Int :=
 if a.kind = 1 then if 65536 < d.b.length + a.text.length then (d, 2) else (⟨d.b ++ a.text, d.s⟩, 0)
 else if a.kind = 3 then (⟨tear d a.keep, (tear d a.keep).length⟩, 0)
 else if a.kind = 2 then (⟨d.b, d.b.length⟩, 0)
 else (d, 1)
def Dk.ok (d : Dk) : Prop := d.s ≤ d.b.length ∧ d.b.length ≤ 65536
theorem tear_length (d : Dk) (keep : Nat) (h : d.s ≤ d.b.length) : d.s ≤ (tear d keep).length ∧ (tear d keep).length ≤ d.b.length := by
 have := endTo_le keep d.s (d.b.length - d.s)
 simp [tear, torn_length]; omega
theorem doD_ok (d : Dk) (a : Ac) (h : d.ok) : (doD d a).1.ok := by
 obtain ⟨h1, h2⟩ := h
 have := tear_length d a.keep h1
 unfold doD Dk.ok
 repeat' split
 all_goals simp; omega
end Go.Proofs
/- The disk's functions: what each does to the disk behind its pointer. -/
set_option autoImplicit false
namespace Go.Proofs
open Go.SL
attribute [local irreducible] J JL QOp JOp seqQ blockQ loopQ retQ slc cel hex star pur stars Does RV Ent pAt
def diskAt (p : Nat) (d : Dk) : HProp := hex fun S : SV => star (cel p [S.v, .int .i64 (d.s : Int)] 231) (slc tB true S d.b)
theorem diskAt_mk {p : Nat} {d : Dk} {S : SV} {t : Nat} {R : List HProp} (ht : t = 231) : Ent (cel p [S.v, .int .i64 (d.s : Int)] t :: slc tB true S d.b :: R) (diskAt p d :: R) :=
 Ent.mk fun _ _ h => Sat.mkex S (Sat.mkstar (ht ▸ h))
theorem land_one (m : Nat) (h : m < 2 ^ 64) : IntKind.u64.wrap ((BitVec.ofInt 64 (m : Int) &&& BitVec.ofInt 64 1).toNat : Int) = ((m % 2 : Nat) : Int) := by
 have h1 : (BitVec.ofInt 64 (m : Int) &&& BitVec.ofInt 64 1).toNat = m % 2 := by
  rw [BitVec.ofInt_natCast]
  rw [BitVec.toNat_and, BitVec.toNat_ofNat, Nat.mod_eq_of_lt h]
  exact Nat.and_one_is_mod m
 rw [h1]
 exact IntWalk.u64_in _ (by omega)
theorem kept_ok (E : World) (keep k : Nat) (z : Int) (hk : keep < 2 ^ 64) (hz : z = (k : Int)) : Does Tryz.prog E 194 [.int .u64 (keep : Int), .int .i64 z] [] fun v L => v = .bool (decide (k < 64) && (keep >>> k % 2 == 1)) ∧ L = [] := by
 subst hz
 refine Does.of Tryz.func194 rfl Tryz.ntmps194 rfl rfl fun F => ?_
 refine XaL ?_
 refine Lq (Q_lss rfl rfl) ?_
 refine Xd ?_
 refine L_splitD rfl rfl (fun h => ?_) (fun h => ?_)
 ·refine Xf ?_
  refine Lq (Q_shr rfl rfl (by omega) rfl) ?_
  refine Lq (Q_and rfl rfl rfl) ?_
  refine Lq (Q_eql rfl rfl) ?_
  refine Xah ?_
  refine Xq ?_
  refine retQ_ret _ [] (.cons (RV_tmp rfl) .nil) ⟨?_, rfl⟩ (Ent.refl _)
  have e1 : (keep : Int).fdiv (2 ^ (min (k : Int).toNat IntKind.u64.bits)) = ((keep >>> k : Nat) : Int) := by
   have : min (k : Int).toNat IntKind.u64.bits = k := by simp [IntKind.bits]; omega
   rw [this, Int.fdiv_eq_ediv_of_nonneg _ (by exact_mod_cast Nat.zero_le _), Nat.shiftRight_eq_div_pow]
   simp
  have e2 := land_one (keep >>> k) (Nat.lt_of_le_of_lt (Nat.shiftRight_le keep k) hk)
  have h' : k < 64 := by omega
  simp only [oneOf, e1]
  show Value.bool (decide (IntKind.u64.wrap ((BitVec.ofInt 64 ((keep >>> k : Nat) : Int) &&& BitVec.ofInt 64 1).toNat : Int) = 1)) = _
  rw [e2]
  simp only [h', decide_true, Bool.true_and]
  congr 1
  by_cases e : keep >>> k % 2 = 1
  ·simp [e]
  ·have : keep >>> k % 2 = 0 := by omega
   simp [this]
 ·refine Xa7 ?_
  refine Xa7 ?_
  refine L_n rfl rfl rfl ?_
  refine Xp ?_
  refine Xq ?_
  refine retQ_ret _ [] (.cons (RV_tmp rfl) .nil) ⟨?_, rfl⟩ (Ent.refl _)
  have h' : ¬ k < 64 := by omega
  simp [oneOf, h']
theorem tear_ok (E : World) (p keep : Nat) (d : Dk) (hk : keep < 2 ^ 64) (hs : d.s ≤ d.b.length) (hb : d.b.length ≤ 65536) :
 Does Tryz.prog E 160 [.pointer (some ⟨p, 0, none⟩), .int .u64 (keep : Int)] [diskAt p d] fun v L => v = .tuple #[] ∧ L = [diskAt p ⟨tear d keep, d.s⟩] := by
 refine Does.of Tryz.func160 rfl Tryz.ntmps160 rfl rfl fun F => ?_
 refine J.norm ?_
 refine J.ex fun S => J.star ?_
 refine J_seq ?_
 refine DL [0,1,2,3,4,5,6,7,8,9,10] (.quiet 0 (.quiet 1 (.quiet 2 (.quiet 3 (.quiet 4 (.quiet 5 (.quiet 6 (.quiet 7 (.quiet 8 (.quiet 9 (.quiet 10 .done))))))))))) Tryz.mixed ?_
 refine Xbt ?_
 refine Xco ?_
 refine Sq (Ent.refl _) rfl (Q_quo rfl rfl (by decide) (by first | exact IntWalk.i64_quo _ _ (by omega) | rfl)) ?_
 refine Xbt ?_
 refine Xco ?_
 refine Xdm ?_
 refine Xu ?_
 refine Xw ?_
 refine Xaj ?_
 refine Xi ?_
 refine J_block ?_
 refine J_loop (fun k => d.s + k ≤ d.b.length) (fun k => [(0, .pointer (some ⟨p, 0, none⟩)), (1, .int .u64 (keep : Int)), (4, .int .i64 (((d.s / 64 : Nat)) : Int)), (5, .int .i64 (endTo keep d.s k : Int)), (6, .int .i64 ((d.s + k : Nat) : Int))])
  (fun k => [cel p [S.v, .int .i64 (d.s : Int)] 231, slc tB true S (torn keep d.s d.b k), F]) (fun k => d.b.length - (d.s + k)) 0 (by omega) ⟨rfl, rfl, rfl, rfl, rfl, trivial⟩ (by rw [torn_zero]; exact Ent.refl _) ?_
 intro k hks
 refine Xad ?_
 refine Xaj ?_
 refine XX ?_
 refine Lq (Q_lss rfl rfl) ?_
 refine Ln ?_
 refine J_condD rfl (fun h => ?_) (fun h => ?_)
 ·rw [torn_length] at h
  have hlt : d.s + k < d.b.length := by omega
  refine XS ?_
  refine X5 ?_
  refine Xv ?_
  refine Lq (Q_quo rfl rfl (by decide) (by first | exact IntWalk.i64_quo _ _ (by omega) | rfl)) ?_
  refine Xd ?_
  refine XcA ?_
  refine L_o rfl rfl rfl (O_call [] [0,1,2] (kept_ok E keep ((d.s + k) / 64 - d.s / 64) _ hk (by omega)) rfl rfl ?_)
  rintro _ _ ⟨rfl, rfl⟩
  refine Xr ?_
  refine J_cond rfl (fun hb => ?_) (fun hb => ?_)
  ·skip
   refine XbZ ?_
   refine Xj ?_
   refine XV ?_
   refine XbZ ?_
   refine Xj ?_
   have hb : kb keep d.s (d.s + k) = true := hb
   refine loopQ_normal (k + 1) (by omega) (by omega) ⟨rfl, rfl, rfl, ?_, rfl, trivial⟩ ?_
   ·simp only [endTo, hb, if_true]; rfl
   ·rw [torn_kept _ _ _ _ hb]; exact Ent.refl _
  ·skip
   refine Xe ?_
   refine X9 ?_
   refine Lq (Q_ixAt 1 (d.s + k) rfl rfl rfl rfl (by rw [torn_length]; exact hlt) rfl) ?_
   refine L_s rfl rfl (O_stE 1 (d.s + k) 0 (0 : UInt8) rfl rfl rfl rfl rfl rfl (by simp [Value.oneCell', Value.cells]) (by rw [torn_length]; exact hlt) (by decide) rfl ?_)
   refine Xas ?_
   refine XbZ ?_
   refine Xj ?_
   have hb : kb keep d.s (d.s + k) = false := hb
   refine loopQ_normal (k + 1) (by omega) (by omega) ⟨rfl, rfl, rfl, ?_, rfl, trivial⟩ ?_
   ·simp only [endTo, hb]; rfl
   ·rw [torn_lost _ _ _ _ hb]; exact Ent.refl _
 ·rw [torn_length] at h
  have hkk : k = d.b.length - d.s := by omega
  have he := endTo_le keep d.s k
  refine XaA ?_
  refine Xl ?_
  refine X9 ?_
  refine Lq (Q_slH (endTo keep d.s k) (fun w h => h.rd 1 rfl) rfl rfl rfl (by rw [torn_length]; omega) rfl) ?_
  refine Xaw ?_
  refine X6 ?_
  refine retQ_normal [] [diskAt p ⟨tear d keep, d.s⟩] .nil ⟨rfl, rfl⟩ ?_
  refine (Ent.sub 1 0 (endTo keep d.s k) rfl (Nat.zero_le _) (by rw [torn_length]; omega)).trans ?_
  have e : ((torn keep d.s d.b k).take (endTo keep d.s k)).drop 0 = tear d keep := by subst hkk; rfl
  rw [e]
  exact diskAt_mk (d := ⟨tear d keep, d.s⟩) rfl
abbrev acV (a : Ac) : Value := .agg #[.int .i64 a.kind, str a.text, .int .u64 (a.keep : Int)]
theorem new_ok (E : World) : Does Tryz.prog E 104 [] [] fun v L => ∃ p, v = .pointer (some ⟨p, 0, none⟩) ∧ L = [diskAt p ⟨[], 0⟩] := by
 refine Does.of Tryz.func104 rfl Tryz.ntmps104 rfl rfl fun F => ?_
 refine Xb ?_
 refine Xi ?_
 refine XW ?_
 refine L_o rfl rfl rfl (O_box rfl fun b2 => ?_)
 refine Xq ?_
 refine retQ_ret _ [diskAt b2 ⟨[], 0⟩] (.cons (RV_tmp rfl) .nil) ⟨b2, rfl, rfl⟩ ?_
 exact (Ent.mk fun _ _ h => (h.lay_nil tB true : Sat _ _ (slc tB true SV.nil [] :: _))).trans ((Ent.re [1,0,2] rfl).trans (diskAt_mk (S := SV.nil) (d := ⟨[], 0⟩) rfl))
theorem do_ok (E : World) (p : Nat) (d : Dk) (a : Ac) (hk : a.keep < 2 ^ 64) (hd : d.ok) : Does Tryz.prog E 114 [.pointer (some ⟨p, 0, none⟩), acV a] [diskAt p d] fun v L => v = .int .i64 (doD d a).2 ∧ L = [diskAt p (doD d a).1] := by
 obtain ⟨hs, hb⟩ := hd
 have hT := tear_length d a.keep hs
 refine Does.of Tryz.func114 rfl Tryz.ntmps114 rfl rfl fun F => ?_
 refine J.norm ?_
 refine J.ex fun S => J.star ?_
 refine Sr ?_
 refine L_o rfl rfl rfl (O_box rfl fun b3 => ?_)
 refine XbI ?_
 refine Xay ?_
 refine XaT ?_
 refine XP ?_
 refine X5 ?_
 refine X5 ?_
 refine X5 ?_
 refine X5 ?_
 refine J_seq ?_
 refine J_seq ?_
 refine Sr ?_
 refine Lq (Q_eql rfl rfl) ?_
 refine Xi ?_
 refine J_condD rfl (fun h1 => ?_) (fun h1 => ?_)
 ·refine Xa8 ?_
  refine seqQ_exit ?_
  refine Xce ?_
  refine J_seq ?_
  refine J_seq ?_
  refine J_seq ?_
  refine DL [0,1,2,3,4,5,6,7,8,9] (.quiet 0 (.quiet 1 (.quiet 2 (.quiet 3 (.quiet 4 (.quiet 5 (.quiet 6 (.quiet 7 (.quiet 8 (.quiet 9 .done)))))))))) Tryz.mixed ?_
  refine Xco ?_
  refine Sq (Ent.refl _) rfl (Q_slen rfl) ?_
  refine Xbt ?_
  refine Sq (Ent.refl _) rfl (Q_fa0 rfl) ?_
  refine Sq (Ent.refl _) rfl (Q_ld 1 rfl rfl rfl rfl) ?_
  refine Sq (Ent.refl _) rfl (Q_lenAt 2 rfl rfl) ?_
  refine Sq (Ent.refl _) rfl (Q_sub rfl rfl (by first | exact IntWalk.i64_in _ (by omega) | exact IntWalk.u8_in _ (by omega) | exact IntWalk.u32_in _ (by omega) | exact IntWalk.u64_in _ (by omega) | rfl)) ?_
  refine Sq (Ent.refl _) rfl (Q_gtr rfl rfl) ?_
  refine Xu ?_
  refine J_condD rfl (fun h2 => ?_) (fun h2 => ?_)
  ·refine XbK ?_
   refine seqQ_ret ?_
   refine XY ?_
   refine XY ?_
   refine XY ?_
   refine XY ?_
   have e : doD d a = (d, 2) := by unfold doD; rw [if_pos h1, if_pos (by omega)]
   rw [e]
   exact Xf7
  ·refine XS ?_
   refine DH [0,1] [0,1,2,3,4,5,6,8,9] (.quiet 0 (.quiet 1 (.quiet 2 (.quiet 3 (.quiet 4 (.quiet 5 (.quiet 6 (.loud 7 (.quiet 8 (.quiet 9 (.loud 10 .done))))))))))) Tryz.mixed ?_
   refine Xb7 ?_
   refine Xd7 ?_
   refine XcK ?_
   refine S_o rfl rfl rfl rfl (O_appS tB_enc 2 rfl rfl rfl rfl rfl (by omega) (by decide) (fun S' => ⟨_, fun _ => ⟨Ent.reN [0,1] rfl, Ent.refl _⟩, ?_⟩))
   refine Xa ?_
   refine Xcn ?_
   refine Xcp ?_
   refine Xu ?_
   refine J_exit ?_
   refine Xa9 ?_
   refine Xa9 ?_
   refine Xa9 ?_
   refine Xce ?_
   refine Xaf ?_
   have e : doD d a = (⟨d.b ++ a.text, d.s⟩, 0) := by unfold doD; rw [if_pos h1, if_neg (by omega)]
   rw [e]
   exact retQ_ret _ [diskAt p ⟨d.b ++ a.text, d.s⟩] (.cons (RV_tmp rfl) .nil) ⟨rfl, rfl⟩ ((Ent.re [1,2,3] rfl).trans (diskAt_mk (d := ⟨d.b ++ a.text, d.s⟩) rfl))
 ·refine XS ?_
  refine J_seq ?_
  refine Sr ?_
  refine Lq (Q_eql rfl rfl) ?_
  refine Xi ?_
  refine J_condD rfl (fun h3 => ?_) (fun h3 => ?_)
  ·refine Xa8 ?_
   refine seqQ_exit ?_
   refine Xa9 ?_
   refine Xce ?_
   refine Xe ?_
   refine XaF ?_
   refine JL.ent ((Ent.re [1,2,0,3] rfl).trans (diskAt_mk rfl)) ?_
   refine L_o rfl rfl rfl (O_call [0] [1,2] (tear_ok E p a.keep d hk hs hb) rfl rfl ?_)
   rintro _ _ ⟨rfl, rfl⟩
   refine Xas ?_
   refine J_seq ?_
   refine J.ex fun S2 => J.star ?_
   refine Xl ?_
   refine Xaj ?_
   refine XX ?_
   refine Xaw ?_
   refine Xr ?_
   refine J_exit ?_
   refine Xa9 ?_
   refine Xce ?_
   refine Xaf ?_
   have e : doD d a = (⟨tear d a.keep, (tear d a.keep).length⟩, 0) := by unfold doD; rw [if_neg h1, if_pos h3]
   rw [e]
   exact retQ_ret _ [diskAt p ⟨tear d a.keep, (tear d a.keep).length⟩] (.cons (RV_tmp rfl) .nil) ⟨rfl, rfl⟩ ((Ent.re [0,1,3] rfl).trans (diskAt_mk (d := ⟨tear d a.keep, (tear d a.keep).length⟩) rfl))
  ·refine XS ?_
   refine Sr ?_
   refine Lq (Q_eql rfl rfl) ?_
   refine Xi ?_
   refine J_condD rfl (fun h2 => ?_) (fun h2 => ?_)
   ·refine Xa8 ?_
    refine Xa9 ?_
    refine Xa9 ?_
    refine Xce ?_
    refine Xv ?_
    refine XL ?_
    refine XE ?_
    refine XbN ?_
    refine XL ?_
    refine L_s rfl rfl (O_st1 1 rfl rfl rfl rfl rfl ?_)
    refine Xr ?_
    refine J_exit ?_
    refine Xa9 ?_
    refine Xce ?_
    refine Xaf ?_
    have e : doD d a = (⟨d.b, d.b.length⟩, 0) := by unfold doD; rw [if_neg h1, if_neg h3, if_pos h2]
    rw [e]
    exact retQ_ret _ [diskAt p ⟨d.b, d.b.length⟩] (.cons (RV_tmp rfl) .nil) ⟨rfl, rfl⟩ ((Ent.re [1,2,3] rfl).trans (diskAt_mk (d := ⟨d.b, d.b.length⟩) rfl))
   ·refine XS ?_
    refine J_exit ?_
    refine Xa9 ?_
    refine Xa9 ?_
    refine Xa9 ?_
    refine Xce ?_
    refine J_seq ?_
    refine XbK ?_
    refine XY ?_
    have e : doD d a = (d, 1) := by unfold doD; rw [if_neg h1, if_neg h3, if_neg h2]
    rw [e]
    exact Xf7
end Go.Proofs
/- A text's sum, walked. -/
set_option autoImplicit false
namespace Go.Proofs
open Go.SL
attribute [local irreducible] J JL QOp JOp seqQ blockQ loopQ retQ slc cel hex star pur stars Does RV Ent pAt
theorem more_ok (E : World) (c : Nat) (s : List UInt8) (hc : c < 2 ^ 32) (hs : s.length ≤ 1000000) : Does Tryz.prog E 159 [.int .u32 (c : Int), str s] [] fun v L => v = .int .u32 (crcMore c s : Int) ∧ L = [] := by
 refine Does.of Tryz.func159 rfl Tryz.ntmps159 rfl rfl fun F => ?_
 refine XbB ?_
 refine L_o rfl rfl rfl (O_s2b tB_enc rfl rfl (by omega) (fun S => ?_))
 refine Xc ?_
 refine Xba ?_
 refine J_loop (fun k => k ≤ s.length) (fun k => [(0, .int .u32 (crcMore c (s.take k) : Int)), (8, S.v), (9, .int .i64 (s.length : Int)), (10, .int .i64 (k : Int))])
  (fun _ => [slc tB true S s, F]) (fun k => s.length - k) 0 (by omega) ⟨rfl, rfl, rfl, rfl, trivial⟩ (Ent.refl _) ?_
 intro k hk
 refine Sr ?_
 refine Lq (Q_lss rfl rfl) ?_
 refine Xt ?_
 refine J_condD rfl (fun h => ?_) (fun h => ?_)
 ·have hlt : k < s.length := by omega
  have hm := crcMore_lt (s.take k) c hc
  have hsucc := crcMore_take c s k hlt
  generalize crcMore c (s.take k) = m at hm hsucc ⊢
  have hb : s[k].toNat < 2 ^ 32 := by have := s[k].toNat_lt; omega
  refine XS ?_
  refine X5 ?_
  refine Sr ?_
  refine Lq (Q_ixAt 0 k rfl rfl rfl rfl hlt rfl) ?_
  refine Lq (Q_ldEAt 0 k 0 (v := .int .u8 (s[k].toNat : Int)) rfl rfl rfl rfl hlt (by decide) rfl) ?_
  refine XT ?_
  refine Xf8 ?_
  refine Lq (Q_xorN m s[k].toNat rfl rfl rfl rfl hm hb) ?_
  refine Xx ?_
  refine XP ?_
  have hm1 : m ^^^ s[k].toNat < 2 ^ 32 := Nat.xor_lt_two_pow hm hb
  refine J_loop (fun i => i ≤ 8) (fun i => [(0, .int .u32 (crcN i (m ^^^ s[k].toNat) : Int)), (8, S.v), (9, .int .i64 (s.length : Int)), (10, .int .i64 (k : Int)), (18, .int .i64 (i : Int))])
   (fun _ => [slc tB true S s, F]) (fun i => 8 - i) 0 (by omega) ⟨rfl, rfl, rfl, rfl, rfl, trivial⟩ (Ent.refl _) ?_
  intro i hi
  refine Sr ?_
  refine Lq (Q_lss rfl rfl) ?_
  refine Xt ?_
  refine J_condD rfl (fun h2 => ?_) (fun h2 => ?_)
  ·have hlt2 : i < 8 := by omega
   have hn := crcN_lt i _ hm1
   have hstep : crcN (i + 1) (m ^^^ s[k].toNat) = crcStep (crcN i (m ^^^ s[k].toNat)) := rfl
   generalize crcN i (m ^^^ s[k].toNat) = d at hn hstep ⊢
   by_cases ho : d % 2 = 1
   ·have e1 : (d &&& 1) = 1 := by rw [Nat.and_one_is_mod]; exact ho
    refine XS ?_
    refine X5 ?_
    refine Xe ?_
    refine Lq (Q_shrN d 1 rfl rfl rfl rfl (by decide)) ?_
    refine Xd ?_
    refine Lq (Q_andN d 1 rfl rfl rfl rfl hn (by decide)) ?_
    refine Lq (Q_neg (r := 4294967295) rfl (by rw [e1]; rfl)) ?_
    refine Lq (Q_andN 2197175160 4294967295 rfl rfl rfl rfl (by decide) (by decide)) ?_
    refine Lq (Q_xorN (d / 2) 2197175160 rfl rfl rfl rfl (by show d / 2 < 2 ^ 32; omega) (by decide)) ?_
    refine Xj ?_
    refine Xa0 ?_
    refine loopQ_normal (i + 1) (by omega) (by omega) ⟨?_, rfl, rfl, rfl, rfl, trivial⟩ (Ent.refl _)
    rw [hstep]; simp only [crcStep, if_pos ho]; rfl
   ·have ho : d % 2 = 0 := by omega
    have e1 : (d &&& 1) = 0 := by rw [Nat.and_one_is_mod]; exact ho
    refine XS ?_
    refine X5 ?_
    refine Xe ?_
    refine Lq (Q_shrN d 1 rfl rfl rfl rfl (by decide)) ?_
    refine Xd ?_
    refine Lq (Q_andN d 1 rfl rfl rfl rfl hn (by decide)) ?_
    refine Lq (Q_neg (r := 0) rfl (by rw [e1]; rfl)) ?_
    refine Lq (Q_andN 2197175160 0 rfl rfl rfl rfl (by decide) (by decide)) ?_
    refine Lq (Q_xorN (d / 2) 0 rfl rfl rfl rfl (by show d / 2 < 2 ^ 32; omega) (by decide)) ?_
    refine Xj ?_
    refine Xa0 ?_
    refine loopQ_normal (i + 1) (by omega) (by omega) ⟨?_, rfl, rfl, rfl, rfl, trivial⟩ (Ent.refl _)
    rw [hstep]; simp only [crcStep, if_neg (show ¬ d % 2 = 1 by omega)]; rfl
  ·obtain rfl : i = 8 := by omega
   refine Xa8 ?_
   refine Xbr ?_
   refine Xa0 ?_
   refine loopQ_normal (k + 1) hlt (by omega) ⟨?_, rfl, rfl, rfl, trivial⟩ (Ent.refl _)
   rw [hsucc]; rfl
 ·obtain rfl : k = s.length := by omega
  refine XaA ?_
  refine Xg ?_
  refine Xq ?_
  exact retQ_ret _ [] (.cons (RV_tmp rfl) .nil) ⟨by rw [List.take_length]; rfl, rfl⟩ (Ent.re [1] rfl)
end Go.Proofs
/- The document's sum, walked. -/
set_option autoImplicit false
namespace Go.Proofs
open Go.SL
attribute [local irreducible] J JL QOp JOp seqQ blockQ loopQ retQ slc cel hex star pur stars Does RV Ent pAt
end Go.Proofs
/- Records one behind the other, in plain Lean. -/
set_option autoImplicit false
namespace Go.Proofs
def frame (t : List UInt8) : List UInt8 := four t.length ++ four (crc (four t.length ++ t)) ++ t
def text (l : List (List UInt8)) : List UInt8 := l.flatMap frame
end Go.Proofs
