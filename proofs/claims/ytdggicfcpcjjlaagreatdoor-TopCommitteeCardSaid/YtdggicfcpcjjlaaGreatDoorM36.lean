/- Part 36 of the texts below the row: RecF, Wal28, Rel28, Vlt1, Vlt2. -/
import Derived.Test.YtdggicfcpcjjlaaGreatDoorM1
import Derived.Test.YtdggicfcpcjjlaaGreatDoorM13
import Derived.Test.YtdggicfcpcjjlaaGreatDoorM35
/- Records, walked. -/
set_option autoImplicit false
namespace Go.Proofs
open Go.SL
attribute [local irreducible] J JL QOp JOp seqQ blockQ loopQ retQ slc cel hex star pur stars Does RV Ent pAt
theorem fourr_ok (E : World) (n : Nat) : Does Tryz.prog E 158 [.int .u32 (n : Int)] [] fun v L => v = str (four n) ∧ L = [] := by
 refine Does.of Tryz.func158 rfl Tryz.ntmps158 rfl rfl fun F => ?_
 refine XaL ?_
 refine Lq (Q_shrN n 24 rfl rfl rfl rfl (by decide)) ?_
 refine Lq (Q_cvtN (n / 2 ^ 24) rfl rfl) ?_
 refine Xd ?_
 refine Lq (Q_shrN n 16 rfl rfl rfl rfl (by decide)) ?_
 refine Lq (Q_cvtN (n / 2 ^ 16) rfl rfl) ?_
 refine Xd ?_
 refine Lq (Q_shrN n 8 rfl rfl rfl rfl (by decide)) ?_
 refine Lq (Q_cvtN (n / 2 ^ 8) rfl rfl) ?_
 refine Xd ?_
 refine Lq (Q_cvtN n rfl rfl) ?_
 refine L_o rfl rfl rfl (O_litP (τ := tB) (m := 4) (sz := 1) (four n) rfl rfl rfl rfl rfl rfl (by decide) (fun S => ?_))
 refine Xc ?_
 refine Xa6 ?_
 exact Xcr
def frameV (t : List UInt8) : Value := if 4096 < t.length then .tuple #[str [], .int .i64 2] else .tuple #[str (frame t), .int .i64 0]
theorem frame_ok (E : World) (t : List UInt8) : Does Tryz.prog E 113 [str t] [] fun v L => v = frameV t ∧ L = [] := by
 refine Does.of Tryz.func113 rfl Tryz.ntmps113 rfl rfl fun F => ?_
 refine Xb ?_
 refine Xbm ?_
 refine XN ?_
 refine Lq (Q_gtr rfl rfl) ?_
 refine Ln ?_
 refine J_condD rfl (fun h => ?_) (fun h => ?_)
 ·rw [show frameV t = .tuple #[str [], .int .i64 2] by unfold frameV; rw [if_pos (by omega)]]
  refine Sr ?_
  refine Xs ?_
  refine Xa1 ?_
  exact retQ_ret _ [] (.cons (RV_tmp rfl) (.cons (RV_tmp rfl) .nil)) ⟨rfl, rfl⟩ (Ent.refl _)
 ·rw [show frameV t = .tuple #[str (frame t), .int .i64 0] by unfold frameV; rw [if_neg (by omega)]]
  have ht : t.length ≤ 4096 := by omega
  have f4 : ∀ n, (four n).length = 4 := fun _ => rfl
  have h1 : crcMore (crcMore 4294967295 (four t.length)) t < 2 ^ 32 := crcMore_lt _ _ (crcMore_lt _ _ (by decide))
  have h2 : 4294967295 ^^^ crcMore (crcMore 4294967295 (four t.length)) t = crc (four t.length ++ t) := by unfold crc; rw [crcMore_append]
  refine XS ?_
  refine Xg ?_
  refine XN ?_
  refine Lq (Q_cvtN t.length rfl rfl) ?_
  refine L_o rfl rfl rfl (O_call [] [0] (fourr_ok E (t.length % 2 ^ 32)) rfl rfl ?_)
  rintro _ _ ⟨rfl, rfl⟩
  refine XaJ ?_
  rw [Nat.mod_eq_of_lt (a := t.length) (by omega)]
  refine Xl ?_
  refine L_o rfl rfl rfl (O_call [] [0] (more_ok E 4294967295 (four t.length) (by decide) (by simp [four])) rfl rfl ?_)
  rintro _ _ ⟨rfl, rfl⟩
  refine XaO ?_
  refine L_o rfl rfl rfl (O_call [] [0] (more_ok E (crcMore 4294967295 (four t.length)) t (crcMore_lt _ _ (by decide)) (by omega)) rfl rfl ?_)
  rintro _ _ ⟨rfl, rfl⟩
  refine Xc ?_
  refine Lq (Q_compl (crcMore (crcMore 4294967295 (four t.length)) t) rfl rfl h1 rfl) ?_
  refine L_o rfl rfl rfl (O_call [] [0] (fourr_ok E (4294967295 ^^^ crcMore (crcMore 4294967295 (four t.length)) t)) rfl rfl ?_)
  rintro _ _ ⟨rfl, rfl⟩
  refine Xc ?_
  refine Lq (Q_sadd rfl rfl (by rw [f4, f4]; decide)) ?_
  refine Xd ?_
  refine Lq (Q_sadd rfl rfl (by rw [List.length_append, f4, f4]; omega)) ?_
  refine Xbz ?_
  exact retQ_ret _ [] (.cons (RV_tmp rfl) (.cons (RV_tmp rfl) .nil)) ⟨by rw [h2]; rfl, rfl⟩ (Ent.refl _)
end Go.Proofs
/- A log on a disk: begun; a record put behind. -/
set_option autoImplicit false
namespace Go.Proofs
open Go.SL
/-- A log: its records, its disk. -/
def walH (p pd : Nat) (S : SV) (l : List (List UInt8)) (d : Dk) : List HProp := [cel p [.pointer (some ⟨pd, 0, none⟩), S.v, .int .i64 0] 177, diskAt pd d, slc tS true S l]
def walA (p n : Nat) : HProp := hex fun q : Nat × SV × List (List UInt8) × Dk => star (pur (q.2.2.2.ok ∧ q.2.2.2.b.length ≤ n ∧ q.2.2.1.length ≤ n)) (stars (walH p q.1 q.2.1 q.2.2.1 q.2.2.2))
theorem Ent.walIn {p pd n : Nat} {S : SV} {l : List (List UInt8)} {d : Dk} {L : List HProp} (h : d.ok ∧ d.b.length ≤ n ∧ l.length ≤ n) : Ent (cel p [.pointer (some ⟨pd, 0, none⟩), S.v, .int .i64 0] 177 :: diskAt pd d :: slc tS true S l :: L) (walA p n :: L) := fun E w hs => by
 have h1 : Sat E w (stars (walH p pd S l d) :: L) := Ent.gather (R := walH p pd S l d) E w hs
 have h2 : Sat E w (pur (d.ok ∧ d.b.length ≤ n ∧ l.length ≤ n) :: stars (walH p pd S l d) :: L) := h1.lay fun _ => h
 exact (h2.mkstar).mkex (f := fun q : Nat × SV × List (List UInt8) × Dk => star (pur (q.2.2.2.ok ∧ q.2.2.2.b.length ≤ n ∧ q.2.2.1.length ≤ n)) (stars (walH p q.1 q.2.1 q.2.2.1 q.2.2.2))) (pd, S, l, d)
theorem Sat.walOut {E w : World} {p n : Nat} {L : List HProp} (h : Sat E w (walA p n :: L)) : ∃ q : { q : Nat × SV × List (List UInt8) × Dk // q.2.2.2.ok ∧ q.2.2.2.b.length ≤ n ∧ q.2.2.1.length ≤ n }, Sat E w (cel p [.pointer (some ⟨q.1.1, 0, none⟩), q.1.2.1.v, .int .i64 0] 177 :: diskAt q.1.1 q.1.2.2.2 :: slc tS true q.1.2.1 q.1.2.2.1 :: L) := by
 obtain ⟨q, hq⟩ := Sat.ex h
 obtain ⟨hm, h2⟩ := hq.star.fact
 exact ⟨⟨q, hm⟩, Ent.spread (R := walH p q.1 q.2.1 q.2.2.1 q.2.2.2) E w h2⟩
attribute [local irreducible] J JL QOp JOp seqQ blockQ loopQ retQ slc cel hex star pur stars Does RV Ent pAt scopeQ JR seqR endR JLI DoesY
attribute [local irreducible] diskAt
section
variable (E : World)
theorem walnew_ok : Does Tryz.prog E 56 [] [] fun v L => ∃ p : Nat, v = .pointer (some ⟨p, 0, none⟩) ∧ L = [walA p 0] := by
 have h := new_ok E
 refine Does.of Tryz.func56 rfl Tryz.ntmps56 rfl rfl fun F => ?_
 refine Xb ?_
 refine XC ?_
 refine L_o rfl rfl rfl (O_call [] [0] h rfl rfl ?_)
 rintro _ _ ⟨pd, rfl, rfl⟩
 refine Xc ?_
 refine Xk ?_
 refine L_o rfl rfl rfl (O_box rfl fun b3 => ?_)
 refine Xq ?_
 refine retQ_ret _ [walA b3 0] (.cons (RV_tmp rfl) .nil) ⟨b3, rfl, rfl⟩ ?_
 exact (Ent.mk fun _ _ h => (h.lay_nil tS true : Sat _ _ (slc tS true SV.nil [] :: _))).trans ((Ent.re [1,2,0,3] rfl).trans (Ent.walIn (pd := pd) (S := SV.nil) (l := []) (d := ⟨[], 0⟩) ⟨⟨Nat.zero_le _, Nat.zero_le _⟩, Nat.le_refl _, Nat.le_refl _⟩))
theorem frame_len28 (s : List UInt8) : (frame s).length = s.length + 8 := by unfold frame; simp [four]
theorem wappend_ok (p n : Nat) (s : List UInt8) (hs : s.length ≤ 4096) (hn : n + s.length + 8 ≤ 65536) : Does Tryz.prog E 65 [.pointer (some ⟨p, 0, none⟩), str s] [walA p n] fun v L => v = .int .i64 0 ∧ L = [walA p (n + s.length + 8)] := by
 have hf := frame_ok E s
 rw [show frameV s = .tuple #[str (frame s), .int .i64 0] by unfold frameV; rw [if_neg (by omega)]] at hf
 have hfl := frame_len28 s
 generalize frame s = f at *
 refine Does.of Tryz.func65 rfl Tryz.ntmps65 rfl rfl fun F => ?_
 refine J.norm ?_
 refine J.open (fun _ hs => Sat.walOut hs) ?_
 rintro ⟨⟨pd, S, l, d⟩, hd, hb, hl⟩
 dsimp only at hd hb hl ⊢
 have hdo := do_ok E pd d ⟨1, f, 0⟩ (by show 0 < 2 ^ 64; decide) hd
 have e : doD d ⟨1, f, 0⟩ = (⟨d.b ++ f, d.s⟩, 0) := by unfold doD; rw [if_pos rfl, if_neg (by dsimp only; omega)]
 have hok := doD_ok d ⟨1, f, 0⟩ hd
 rw [e] at hdo hok
 refine Sr ?_
 refine XbI ?_
 refine Xag ?_
 refine L_o rfl rfl rfl (O_callP (hf) rfl ?_)
 refine XK ?_
 refine Xbm ?_
 refine XaQ ?_
 refine Xw ?_
 refine X9 ?_
 refine Xk ?_
 refine L_o rfl rfl rfl (O_call [1] [0,2,3] hdo rfl rfl ?_)
 rintro _ _ ⟨rfl, rfl⟩
 refine Xc ?_
 refine XaQ ?_
 refine Xv ?_
 refine XL ?_
 refine XE ?_
 refine Xd ?_
 refine L_o rfl rfl rfl (O_litP (τ := tS) (m := 1) (sz := 1) [s] rfl rfl rfl rfl rfl rfl (by decide) (fun U => ?_))
 refine Xc ?_
 refine L_o rfl rfl rfl (O_app (τ := tS) 3 rfl (fun w h => h.rd 0 rfl) rfl rfl rfl rfl (by simp only [List.length_singleton]; omega) (by decide) (fun S' => ?_))
 refine Xc ?_
 refine XL ?_
 refine L_s rfl rfl (O_st1 2 rfl rfl rfl rfl rfl ?_)
 refine Xr ?_
 refine Xaf ?_
 exact retQ_ret _ [_] (.cons (RV_tmp rfl) .nil) ⟨rfl, rfl⟩ ((Ent.re [2,1,3,4] rfl).trans (Ent.walIn ⟨hok, by show (d.b ++ f).length ≤ _; rw [List.length_append]; omega, by rw [List.length_append, List.length_singleton]; omega⟩))
end
end Go.Proofs
/- A gate of time. -/
set_option autoImplicit false
namespace Go.Proofs
open Go.SL
abbrev gateL (pc : Nat) : List Value := [.int .i64 10, .int .i64 5, .iface 178 (.pointer (some ⟨pc, 0, none⟩))]
/-- A gate whose clock read this at most. -/
def gateH (p pc : Nat) (last most : Int) : List HProp := [cel p (gateL pc) 184, cel pc [.int .i64 last, .int .i64 most] 180]
def gateA (p : Nat) (last most : Int) : HProp := hex fun pc : Nat => stars (gateH p pc last most)
theorem Ent.gateIn {p pc : Nat} {last most : Int} {L : List HProp} : Ent (cel p (gateL pc) 184 :: cel pc [.int .i64 last, .int .i64 most] 180 :: L) (gateA p last most :: L) := fun E w hs =>
 (Ent.gather (R := gateH p pc last most) E w hs).mkex (f := fun pc : Nat => stars (gateH p pc last most)) pc
theorem Sat.gateOut {E w : World} {p : Nat} {last most : Int} {L : List HProp} (h : Sat E w (gateA p last most :: L)) : ∃ pc : Nat, Sat E w (cel p (gateL pc) 184 :: cel pc [.int .i64 last, .int .i64 most] 180 :: L) := by
 obtain ⟨pc, hq⟩ := Sat.ex h
 exact ⟨pc, Ent.spread (R := gateH p pc last most) E w hq⟩
theorem metSet : MetPt Tryz.prog 178 "sandglass/release.set" 238 := ⟨by kernel_rfl, by kernel_rfl⟩
theorem metMost : MetPt Tryz.prog 178 "sandglass/release.most" 237 := ⟨by kernel_rfl, by kernel_rfl⟩
attribute [local irreducible] J JL QOp JOp seqQ blockQ loopQ retQ slc cel hex star pur stars Does RV Ent pAt scopeQ JR seqR endR JLI DoesY
section
variable (E : World)
theorem rnew_ok : Does Tryz.prog E 57 [.int .i64 10, .int .i64 5] [] fun v L => ∃ p : Nat, v = .pointer (some ⟨p, 0, none⟩) ∧ L = [gateA p 0 (-1)] := by
 refine Does.of Tryz.func57 rfl Tryz.ntmps57 rfl rfl fun F => ?_
 refine XaL ?_
 refine Lq ((Q_max2 rfl rfl).as (v' := .int .i64 10) rfl) ?_
 refine Lq ((Q_min2 rfl rfl).as (v' := .int .i64 10) rfl) ?_
 refine Xd ?_
 refine Lq ((Q_max2 rfl rfl).as (v' := .int .i64 5) rfl) ?_
 refine Lq ((Q_min2 rfl rfl).as (v' := .int .i64 5) rfl) ?_
 refine Xk ?_
 refine L_o rfl rfl rfl (O_box rfl fun b12 => ?_)
 refine Lq (Q_makeInterface rfl rfl) ?_
 refine Xk ?_
 refine L_o rfl rfl rfl (O_box rfl fun b15 => ?_)
 refine Xq ?_
 refine retQ_ret _ [gateA b15 0 (-1)] (.cons (RV_tmp rfl) .nil) ⟨b15, rfl, rfl⟩ ?_
 exact Ent.gateIn (pc := b12)
theorem cset_ok (pc : Nat) (a b : Int) (hb : b ≤ 12) : Does Tryz.prog E 238 [.pointer (some ⟨pc, 0, none⟩), .int .i64 12] [cel pc [.int .i64 a, .int .i64 b] 180] fun v L => v = .tuple #[] ∧ L = [cel pc [.int .i64 12, .int .i64 12] 180] := by
 refine Does.of Tryz.func238 rfl Tryz.ntmps238 rfl rfl fun F => ?_
 refine J.norm ?_
 refine Xv ?_
 refine Lq ((Q_max2 rfl rfl).as (v' := .int .i64 12) rfl) ?_
 refine Lq ((Q_min2 rfl rfl).as (v' := .int .i64 12) rfl) ?_
 refine Xaw ?_
 refine Xr ?_
 refine DH [0] [0,1,2,3,4,5,6,7,8,9,10,11] (.quiet 0 (.quiet 1 (.quiet 2 (.quiet 3 (.quiet 4 (.quiet 5 (.quiet 6 (.quiet 7 (.quiet 8 (.quiet 9 (.quiet 10 (.quiet 11 (.loud 12 .done))))))))))))) Tryz.mixed ?_
 refine Xak ?_
 refine XaX ?_
 refine XU ?_
 refine XaE ?_
 refine XaX ?_
 refine Sq (Ent.re [0] rfl) rfl ((Q_max2 rfl rfl).as (v' := .int .i64 12) (congrArg (Value.int .i64) (by omega))) ?_
 refine XaE ?_
 refine XbQ ?_
 refine S_s rfl rfl rfl (O_st1 0 rfl rfl rfl rfl rfl ⟨[], free_no (by kernel_rfl), ?_⟩)
 refine Xaq ?_
 exact XcY
theorem cmost_ok (pc : Nat) (a b : Int) : Does Tryz.prog E 237 [.pointer (some ⟨pc, 0, none⟩)] [cel pc [.int .i64 a, .int .i64 b] 180] fun v L => v = .int .i64 b ∧ L = [cel pc [.int .i64 a, .int .i64 b] 180] := by
 refine Does.of Tryz.func237 rfl Tryz.ntmps237 rfl rfl fun F => ?_
 refine XaL ?_
 refine Xaj ?_
 refine Xq ?_
 exact Xcj
theorem rtick_ok (p : Nat) (a b : Int) (hb : b ≤ 12) : Does Tryz.prog E 66 [.pointer (some ⟨p, 0, none⟩), .int .i64 12] [gateA p a b] fun v L => v = .tuple #[] ∧ L = [gateA p 12 12] := by
 refine Does.of Tryz.func66 rfl Tryz.ntmps66 rfl rfl fun F => ?_
 refine J.norm ?_
 refine J.open (fun _ hs => Sat.gateOut hs) fun pc => ?_
 have hs := cset_ok E pc a b hb
 refine Xg ?_
 refine Lq (Q_pneq rfl rfl) ?_
 refine Xm ?_
 refine Xe ?_
 refine X9 ?_
 refine L_o rfl rfl rfl (O_invokeP [1] [0,2] metSet rfl rfl hs rfl ?_)
 rintro _ _ ⟨rfl, rfl⟩
 refine X6 ?_
 exact retQ_normal [] [_] .nil ⟨rfl, rfl⟩ ((Ent.re [1,0,2] rfl).trans Ent.gateIn)
theorem rtime_ok (p pc : Nat) : Does Tryz.prog E 161 [.pointer (some ⟨p, 0, none⟩), .int .i64 0] [cel p (gateL pc) 184] fun v L => v = .int .i64 10 ∧ L = [cel p (gateL pc) 184] := by
 refine Does.of Tryz.func161 rfl Tryz.ntmps161 rfl rfl fun F => ?_
 refine Xb ?_
 refine XbI ?_
 refine Xf ?_
 refine Xat ?_
 refine Xp ?_
 refine Xf ?_
 refine Lq ((Q_gtr rfl rfl).as (v' := .bool false) rfl) ?_
 refine XbU ?_
 refine DH [0] [0,1,2,3,4,5,6,7,8,9,10,11] (.quiet 0 (.quiet 1 (.quiet 2 (.quiet 3 (.quiet 4 (.quiet 5 (.quiet 6 (.quiet 7 (.quiet 8 (.quiet 9 (.quiet 10 (.quiet 11 .done)))))))))))) Tryz.mixed ?_
 refine XU ?_
 refine XaE ?_
 refine XaX ?_
 refine Xak ?_
 refine XaX ?_
 refine Sq (Ent.re [0] rfl) rfl ((Q_mul rfl rfl (by rfl)).as (v' := .int .i64 0) rfl) ?_
 refine Sq (Ent.re [0] rfl) rfl ((Q_add rfl rfl (by rfl)).as (v' := .int .i64 10) rfl) ?_
 refine XdO ?_
 refine J_ret ?_
 exact Xcj
theorem ropen_ok (p : Nat) : Does Tryz.prog E 117 [.pointer (some ⟨p, 0, none⟩), .int .i64 0] [gateA p 12 12] fun v L => v = .bool true ∧ L = [gateA p 12 12] := by
 refine Does.of Tryz.func117 rfl Tryz.ntmps117 rfl rfl fun F => ?_
 refine J.norm ?_
 refine J.open (fun _ hs => Sat.gateOut hs) fun pc => ?_
 have ht := rtime_ok E p pc
 have hm := cmost_ok E pc 12 12
 refine Sr ?_
 refine XT ?_
 refine L_o rfl rfl rfl (O_call [0] [1,2] ht rfl rfl ?_)
 rintro _ _ ⟨rfl, rfl⟩
 refine Xc ?_
 refine Xx ?_
 refine Lq ((Q_geq rfl rfl).as (v' := .bool true) rfl) ?_
 refine Xf ?_
 refine Xaj ?_
 refine L_o rfl rfl rfl (O_invokeP [1] [0,2] metMost rfl rfl hm rfl ?_)
 rintro _ _ ⟨rfl, rfl⟩
 refine XaO ?_
 refine Lq ((Q_geq rfl rfl).as (v' := .bool true) rfl) ?_
 refine XaD ?_
 refine Xq ?_
 exact retQ_ret _ [_] (.cons (RV_tmp rfl) .nil) ⟨rfl, rfl⟩ ((Ent.re [1,0,2] rfl).trans Ent.gateIn)
end
end Go.Proofs
/- A vault: how it lies; a dealer's part laid. -/
set_option autoImplicit false
namespace Go.SL
theorem Ent.tail {c : HProp} {L : List HProp} : Ent (c :: L) L := fun _ _ h => Sat.head (L := []) h fun g _ => ⟨fun _ => g, by simp, by simp, by simp⟩
end Go.SL
namespace Go.Proofs
open Go.SL
def tPss : Ty SV := ⟨41, 1, fun S => [S.v], fun _ => rfl, by decide, fun a v hv => by simp at hv; subst hv; rfl⟩
instance : TyI Tryz.prog tPss.e 1 (.slice none 0 0) 24 := inferInstanceAs (TyI Tryz.prog 41 1 (.slice none 0 0) 24)
instance : TyU Tryz.prog 118 (.slice tPss.e) := inferInstanceAs (TyU Tryz.prog 118 (.slice 41))
def tShs : Ty SV := ⟨67, 1, fun S => [S.v], fun _ => rfl, by decide, fun a v hv => by simp at hv; subst hv; rfl⟩
instance : TyI Tryz.prog tShs.e 1 (.slice none 0 0) 24 := inferInstanceAs (TyI Tryz.prog 67 1 (.slice none 0 0) 24)
instance : TyU Tryz.prog 119 (.slice tShs.e) := inferInstanceAs (TyU Tryz.prog 119 (.slice 67))
def tGp : Ty Nat := ⟨47, 1, fun p => [.pointer (some ⟨p, 0, none⟩)], fun _ => rfl, by decide, fun a v hv => by simp at hv; subst hv; rfl⟩
instance : TyI Tryz.prog tGp.e 1 (.pointer none) 8 := inferInstanceAs (TyI Tryz.prog 47 1 (.pointer none) 8)
instance : TyU Tryz.prog 120 (.slice tGp.e) := inferInstanceAs (TyU Tryz.prog 120 (.slice 47))
/-- A vault's own cells. -/
abbrev vlL (me : Nat) (C M : SV) (pl pw pg : Nat) (G : SV) : List Value := [.int .i64 1, .int .i64 (me : Int), C.v, M.v, .pointer (some ⟨pl, 0, none⟩), .pointer (some ⟨pw, 0, none⟩), .pointer (some ⟨pg, 0, none⟩), G.v]
attribute [local irreducible] J JL QOp JOp seqQ blockQ loopQ retQ slc cel hex star pur stars Does RV Ent pAt scopeQ JR seqR endR JLI DoesY
section
variable (E : World)
theorem vlay_ok (p m : Nat) (C M : SV) (pl pw pg : Nat) (G CS MS : SV) (rows : List (SV × List Pw)) (sh : ShL) (hr : rows.length ≤ 100) (hs : sh.length ≤ 100) (n : Nat) (hm : m < n) (hn : n ≤ 100) (d : Dl) (c : List W4) (hc1000 : c.length ≤ 1000) (hd : DlOf d n [c]) :
 Does Tryz.prog E 59 [.pointer (some ⟨p, 0, none⟩), dlV d.C d.V] [cel p (vlL (m + 1) C M pl pw pg G) 122, slc tPss true C [CS], slc tPs true CS (rows.map (·.1)), stars (rows.map rowP), slc tShs true M [MS], slc tSh true MS sh, slc tPs true d.C (d.c.map (·.1)), stars (d.c.map rowP), slc tNs true d.V (d.v.map (·.1)), stars (d.v.map rowN)]
  fun v L => ∃ CS' MS' V : SV, v = .tuple #[] ∧ L = [cel p (vlL (m + 1) C M pl pw pg G) 122, slc tPss true C [CS'], slc tPs true CS' ((rows ++ [(V, cmtL c)]).map (·.1)), stars ((rows ++ [(V, cmtL c)]).map rowP), slc tShs true M [MS'], slc tSh true MS' (sh ++ [(m + 1, valW c (m + 1))]), slc tPs true d.C (d.c.map (·.1)), stars (d.c.map rowP), slc tNs true d.V (d.v.map (·.1)), stars (d.v.map rowN)] := by
 have hcl := hd.clen
 have h0c : 0 < d.c.length := by rw [hcl]; exact Nat.zero_lt_one
 have hgc : (d.c.map (·.1))[0]'(by rw [List.length_map]; exact h0c) = (d.c[0]).1 := List.getElem_map ..
 have hcv : (d.c[0]).2 = cmtL c := hd.cget 0 h0c Nat.zero_lt_one
 have hvl := hd.vlen
 have hmv : m < d.v.length := by omega
 have hgv : (d.v.map (·.1))[m]'(by rw [List.length_map]; exact hmv) = (d.v[m]).1 := List.getElem_map ..
 have hvv : (d.v[m]).2 = [valW c (m + 1)] := hd.vget m hmv
 have hvl1 : (d.v[m]).2.length = 1 := by rw [hvv]; rfl
 have hvi : (d.v[m]).2[0]'(by omega) = valW c (m + 1) := by simp only [hvv]; rfl
 have hrow : ∀ w L, Sat E w (stars (d.c.map rowP) :: L) → Rd tPw w (d.c[0]).1 (cmtL c) := fun w L h => by
  have := h.rdR 0 rfl 0 h0c
  rwa [hcv] at this
 have hclone := pwclone E (stars (d.c.map rowP)) (d.c[0]).1 (cmtL c) hrow (by rw [cmtL_len]; omega)
 generalize valW c (m + 1) = vw at *
 generalize cmtL c = cm at *
 refine Does.of Tryz.func59 rfl Tryz.ntmps59 rfl rfl fun F => ?_
 refine Xb ?_
 refine L_o rfl rfl rfl (O_box rfl fun b3 => ?_)
 refine Xby ?_
 refine XaF ?_
 refine Lq ((Q_lenAt 7 rfl rfl).as (v' := .int .i64 1) (by rw [List.length_map, hcl]; rfl)) ?_
 refine XJ ?_
 refine J_loop (fun i : Nat × SV × SV × List (SV × List Pw) × ShL => i.1 ≤ 1 ∧ (i.1 = 0 → i.2.2.2.1 = rows ∧ i.2.2.2.2 = sh) ∧ (i.1 = 1 → ∃ V, i.2.2.2.1 = rows ++ [(V, cm)] ∧ i.2.2.2.2 = sh ++ [(m + 1, vw)])) (fun i => [(0, .pointer (some ⟨p, 0, none⟩)), (3, .pointer (some ⟨b3, 0, none⟩)), (7, d.C.v), (8, .int .i64 1), (9, .int .i64 (i.1 : Int))])
  (fun i => [cel b3 (dlL d.C d.V) 43, cel p (vlL (m + 1) C M pl pw pg G) 122, slc tPss true C [i.2.1], slc tPs true i.2.1 (i.2.2.2.1.map (·.1)), stars (i.2.2.2.1.map rowP), slc tShs true M [i.2.2.1], slc tSh true i.2.2.1 i.2.2.2.2, slc tPs true d.C (d.c.map (·.1)), stars (d.c.map rowP), slc tNs true d.V (d.v.map (·.1)), stars (d.v.map rowN), F]) (fun i => 1 - i.1) (0, CS, MS, rows, sh) ⟨Nat.zero_le _, fun _ => ⟨rfl, rfl⟩, fun h => by cases h⟩ ⟨rfl, rfl, rfl, rfl, rfl, trivial⟩ (Ent.refl _) ?_
 rintro ⟨i, K, M2, rs, s2⟩ ⟨hi, hi0, hi1⟩
 dsimp only at hi hi0 hi1 ⊢
 by_cases h1 : i < 1
 ·obtain rfl : i = 0 := by omega
  obtain ⟨rfl, rfl⟩ := hi0 rfl
  refine Xal ?_
  refine Lq (Q_ixAt 7 0 rfl rfl rfl rfl (by rw [List.length_map]; exact h0c) rfl) ?_
  refine Lq (Q_ldEAt 7 0 0 (v := (d.c[0]).1.v) rfl rfl rfl rfl (by rw [List.length_map]; exact h0c) (by decide) (by rw [hgc]; rfl)) ?_
  refine XaK ?_
  refine DH [1,2] [0,1,2,3,4,5,6,7,8,9,10,11,12,16] (.quiet 0 (.quiet 1 (.quiet 2 (.quiet 3 (.quiet 4 (.quiet 5 (.quiet 6 (.quiet 7 (.quiet 8 (.quiet 9 (.quiet 10 (.quiet 11 (.quiet 12 (.loud 13 (.loud 14 (.loud 15 (.quiet 16 (.loud 17 .done)))))))))))))))))) Tryz.mixed ?_
  refine XcW ?_
  refine Xdj ?_
  refine Xen ?_
  refine XcW ?_
  refine XcW ?_
  refine Xdj ?_
  refine Xen ?_
  refine XcW ?_
  refine Sq (Ent.re [1,2] rfl) rfl (Q_ixAt 1 0 rfl rfl rfl rfl Nat.zero_lt_one rfl) ?_
  refine Sq (Ent.re [1,2] rfl) rfl (Q_ldEAt 1 0 0 (v := K.v) rfl rfl rfl rfl Nat.zero_lt_one (by decide) rfl) ?_
  refine XcW ?_
  refine S_o rfl rfl rfl rfl (O_call [8] [0,1,2,3,4,5,6,7,9,10,11] hclone rfl rfl ?_)
  (rintro _ _ ⟨V, rfl, rfl⟩; refine ⟨_, fun _ => ⟨Ent.reN [3,4] rfl, Ent.refl _⟩, ?_⟩)
  refine Xa ?_
  refine S_o rfl rfl rfl rfl (O_litP (τ := tPs) (m := 1) (sz := 1) [V] rfl rfl rfl rfl rfl rfl (by decide) (fun U => ⟨_, fun _ => ⟨Ent.reN [4,5] rfl, Ent.refl _⟩, ?_⟩))
  refine Xa ?_
  refine S_o rfl rfl rfl rfl (O_app (τ := tPs) 6 rfl (fun w h => h.rd 0 rfl) rfl rfl rfl rfl (by simp only [List.length_map, List.length_singleton]; omega) (by decide) (fun K' => ⟨_, fun _ => ⟨Ent.reN [4,5] rfl, Ent.refl _⟩, ?_⟩))
  refine Xa ?_
  refine Sq (Ent.re [4,5] rfl) rfl (Q_ixAt 1 0 rfl rfl rfl rfl Nat.zero_lt_one rfl) ?_
  refine S_s rfl rfl rfl (O_stE 5 0 0 K' rfl rfl rfl rfl rfl rfl (tPss.one _) Nat.zero_lt_one (Nat.le_refl 1) (by rw [List.take_zero, List.nil_append, List.drop_of_length_le (by rw [tPss.len]; exact Nat.le_refl 1), List.append_nil]; rfl) ⟨[], free_no (by kernel_rfl), ?_⟩)
  refine Xbg ?_
  refine DH [4,3,8,11,12] [0,1,2,3,4,5,6,7,8,9,10,11,12,13,14,15,16,17,18,19,20,21,22,23,24,25,26,27,28,31] (.quiet 0 (.quiet 1 (.quiet 2 (.quiet 3 (.quiet 4 (.quiet 5 (.quiet 6 (.quiet 7 (.quiet 8 (.quiet 9 (.quiet 10 (.quiet 11 (.quiet 12 (.quiet 13 (.quiet 14 (.quiet 15 (.quiet 16 (.quiet 17 (.quiet 18 (.quiet 19 (.quiet 20 (.quiet 21 (.quiet 22 (.quiet 23 (.quiet 24 (.quiet 25 (.quiet 26 (.quiet 27 (.quiet 28 (.loud 29 (.loud 30 (.quiet 31 (.loud 32 .done))))))))))))))))))))))))))))))))) Tryz.mixed ?_
  refine XdW ?_
  refine XdV ?_
  refine Xeo ?_
  refine XdW ?_
  refine XdV ?_
  refine Xeo ?_
  refine Sq (Ent.re [4,3,8,11,12] rfl) rfl (Q_ixAt 2 0 rfl rfl rfl rfl Nat.zero_lt_one rfl) ?_
  refine Sq (Ent.re [4,3,8,11,12] rfl) rfl (Q_ldEAt 2 0 0 (v := M2.v) rfl rfl rfl rfl Nat.zero_lt_one (by decide) rfl) ?_
  refine XdW ?_
  refine XdV ?_
  refine Sq (Ent.re [4,3,8,11,12] rfl) rfl (Q_fa0 rfl) ?_
  refine Sq (Ent.re [4,3,8,11,12] rfl) rfl (Q_ld 1 rfl rfl rfl rfl) ?_
  refine XdW ?_
  refine XdV ?_
  refine Sq (Ent.re [4,3,8,11,12] rfl) rfl ((Q_sub rfl rfl (IntWalk.i64_in _ (by omega))).as (v' := .int .i64 (m : Int)) (congrArg (Value.int .i64) (by omega))) ?_
  refine Sq (Ent.re [4,3,8,11,12] rfl) rfl (Q_ixAt 3 m rfl rfl rfl rfl (by rw [List.length_map]; exact hmv) rfl) ?_
  refine Sq (Ent.re [4,3,8,11,12] rfl) rfl (Q_ldEAt 3 m 0 (v := (d.v[m]).1.v) rfl rfl rfl rfl (by rw [List.length_map]; exact hmv) (by decide) (by rw [hgv]; rfl)) ?_
  refine Xeo ?_
  refine Sq (Ent.re [4,3,8,11,12] rfl) rfl (Q_ix (τ := tNm) 0 (fun w h => h.rdR 4 rfl m hmv) rfl rfl rfl (by omega) rfl) ?_
  refine Sq (Ent.re [4,3,8,11,12] rfl) rfl (Q_ldEA (τ := tNm) (vs := vw.l) 0 0 (fun w h => h.rdR 4 rfl m hmv) rfl rfl rfl (by omega) (Nat.le_refl 4) (by rw [hvi]; rfl)) ?_
  refine Sq (Ent.re [4,3,8,11,12] rfl) rfl (Q_build rfl) ?_
  refine S_o rfl rfl rfl rfl (O_litP (τ := tSh) (m := 1) (sz := 5) [(m + 1, vw)] rfl rfl rfl rfl rfl rfl (by decide) (fun U2 => ⟨_, fun _ => ⟨Ent.reN [5,4,9,12,13] rfl, Ent.refl _⟩, ?_⟩))
  refine Xa ?_
  refine S_o rfl rfl rfl rfl (O_app (τ := tSh) 10 rfl (fun w h => h.rd 0 rfl) rfl rfl rfl rfl (by simp only [List.length_singleton]; omega) (by decide) (fun M' => ⟨_, fun _ => ⟨Ent.reN [5,4,9,12,13] rfl, Ent.refl _⟩, ?_⟩))
  refine Xa ?_
  refine Sq (Ent.re [5,4,9,12,13] rfl) rfl (Q_ixAt 2 0 rfl rfl rfl rfl Nat.zero_lt_one rfl) ?_
  refine S_s rfl rfl rfl (O_stE 9 0 0 M' rfl rfl rfl rfl rfl rfl (tShs.one _) Nat.zero_lt_one (Nat.le_refl 1) (by rw [List.take_zero, List.nil_append, List.drop_of_length_le (by rw [tShs.len]; exact Nat.le_refl 1), List.append_nil]; rfl) ⟨[], free_no (by kernel_rfl), ?_⟩)
  refine Xaq ?_
  refine X8 ?_
  refine Xcg ?_
  refine loopQ_normal (1, K', M', rs ++ [(V, cm)], s2 ++ [(m + 1, vw)]) ⟨Nat.le_refl _, (fun h => by cases h), fun _ => ⟨V, rfl, rfl⟩⟩ (by show 1 - 1 < 1 - 0; decide) ⟨rfl, rfl, rfl, rfl, rfl, trivial⟩ ?_
  show Ent _ [_, _, _, slc tPs true K' ((rs ++ [(V, cm)]).map (·.1)), stars ((rs ++ [(V, cm)]).map rowP), _, _, _, _, _, _, _]
  rw [show (rs ++ [(V, cm)]).map (·.1) = rs.map (·.1) ++ [V] by rw [List.map_append]; rfl]
  exact Ent.tail.trans (Ent.tail.trans ((Ent.re [1,6,2,3,4,5,7,8,9,0,10,11,12] rfl).trans ((Ent.last_in rowP rs (V, cm)).trans (Ent.re [1,2,3,4,0,5,6,7,8,9,10,11] rfl))))
 ·obtain rfl : i = 1 := by omega
  obtain ⟨V, rfl, rfl⟩ := hi1 rfl
  refine Xdl ?_
  refine XbA ?_
  exact retQ_normal [] [_, _, _, _, _, _, _, _, _, _] .nil ⟨K, M2, V, rfl, rfl⟩ (Ent.re [1,2,3,4,5,6,7,8,9,10,11] rfl)
end
end Go.Proofs
/- A vault: begun. -/
set_option autoImplicit false
namespace Go.Proofs
open Go.SL
/-- What a vault holds: its shares, the epoch's key, files, how much the log may hold, the clock, the gathering. -/
structure Vs where
 sh : ShL
 k : List UInt8
 fl : List Fl
 n : Nat
 a : Int
 b : Int
 g : Ga
/-- Where it lies. -/
structure Vx where
 C : SV
 M : SV
 MS : SV
 S : SV
 G : SV
 pl : Nat
 pw : Nat
 pg : Nat
 pga : Nat
def vltH (p m : Nat) (s : Vs) (x : Vx) : List HProp := [cel p (vlL (m + 1) x.C x.M x.pl x.pw x.pg x.G) 122, slc tShs true x.M [x.MS], slc tSh true x.MS s.sh, cel x.pl (lgL s.k x.S) 172, slc tFl true x.S s.fl, walA x.pw s.n, gateA x.pg s.a s.b, slc tGp true x.G [x.pga], gaA x.pga s.g]
def vltA (p m : Nat) (s : Vs) : HProp := hex fun x : Vx => stars (vltH p m s x)
theorem Ent.vltIn (p m : Nat) (s : Vs) (x : Vx) {L : List HProp} : Ent (cel p (vlL (m + 1) x.C x.M x.pl x.pw x.pg x.G) 122 :: slc tShs true x.M [x.MS] :: slc tSh true x.MS s.sh :: cel x.pl (lgL s.k x.S) 172 :: slc tFl true x.S s.fl :: walA x.pw s.n :: gateA x.pg s.a s.b :: slc tGp true x.G [x.pga] :: gaA x.pga s.g :: L) (vltA p m s :: L) := fun E w hs =>
 (Ent.gather (R := vltH p m s x) E w hs).mkex (f := fun x : Vx => stars (vltH p m s x)) x
theorem Sat.vltOut {E w : World} {p m : Nat} {s : Vs} {L : List HProp} (h : Sat E w (vltA p m s :: L)) : ∃ x : Vx, Sat E w (cel p (vlL (m + 1) x.C x.M x.pl x.pw x.pg x.G) 122 :: slc tShs true x.M [x.MS] :: slc tSh true x.MS s.sh :: cel x.pl (lgL s.k x.S) 172 :: slc tFl true x.S s.fl :: walA x.pw s.n :: gateA x.pg s.a s.b :: slc tGp true x.G [x.pga] :: gaA x.pga s.g :: L) := by
 obtain ⟨x, hq⟩ := Sat.ex h
 exact ⟨x, Ent.spread (R := vltH p m s x) E w hq⟩
/-- A gathering with nothing. -/
structure GaNew (g : Ga) (rs : List (List Pw)) : Prop where
 t : g.t = 1
 c : g.c.map (·.2) = rs
 k : g.k = List.replicate rs.length (SV.nil, [])
abbrev gaE (q : Nat × Ga) : HProp := gaA q.1 q.2
attribute [local irreducible] J JL QOp JOp seqQ blockQ loopQ retQ slc cel hex star pur stars Does RV Ent pAt scopeQ JR seqR endR JLI DoesY
attribute [local irreducible] gaA
section
variable (E : World)
theorem vbegin_ok (p m : Nat) (C M : SV) (pl pw pg : Nat) (G CS : SV) (rows : List (SV × List Pw)) (hr : 1 ≤ rows.length) (hr2 : rows.length ≤ 100) (hdeg : ∀ r ∈ rows.map (·.2), r.length = 1 + 1) :
 Does Tryz.prog E 60 [.pointer (some ⟨p, 0, none⟩)] [cel p (vlL (m + 1) C M pl pw pg G) 122, slc tPss true C [CS], slc tPs true CS (rows.map (·.1)), stars (rows.map rowP)]
  fun v L => ∃ (G' : SV) (pga : Nat) (g : Ga), v = .tuple #[] ∧ GaNew g (rows.map (·.2)) ∧ L = [cel p (vlL (m + 1) C M pl pw pg G') 122, slc tGp true G' [pga], gaA pga g] := by
 have hg := gnew_ok E 1 (by decide) CS (rows.map (·.1)) (rows.map (·.2)) (stars (rows.map rowP)) (by rw [List.length_map, List.length_map]) (fun w L h k hk hk' => by
  have h1 := h.rdR 0 rfl k (by rw [List.length_map] at hk; exact hk)
  rw [List.getElem_map, List.getElem_map]; exact h1) hdeg (by rw [List.length_map]; exact hr) (by rw [List.length_map]; omega)
 refine Does.of Tryz.func60 rfl Tryz.ntmps60 rfl rfl fun F => ?_
 refine J.norm ?_
 refine Xg ?_
 refine Xaw ?_
 refine Xbn ?_
 refine Xaj ?_
 refine XX ?_
 refine XJ ?_
 refine J.ent (Ent.stars_nil.trans (Ent.mk fun _ _ h => (h.lay_nil tGp true : Sat _ _ (slc tGp true SV.nil [] :: _)))) ?_
 refine J_loop (fun i : Nat × SV × List (Nat × Ga) => i.1 ≤ 1 ∧ i.2.2.length = i.1 ∧ ∀ q ∈ i.2.2, GaNew q.2 (rows.map (·.2))) (fun i => [(0, .pointer (some ⟨p, 0, none⟩)), (10, C.v), (11, .int .i64 1), (12, .int .i64 (i.1 : Int))]) (fun i => [cel p (vlL (m + 1) C M pl pw pg i.2.1) 122, slc tGp true i.2.1 (i.2.2.map (·.1)), stars (i.2.2.map gaE), slc tPss true C [CS], slc tPs true CS (rows.map (·.1)), stars (rows.map rowP), F]) (fun i => 1 - i.1) (0, SV.nil, []) ⟨Nat.zero_le _, rfl, fun _ h => by cases h⟩ ⟨rfl, rfl, rfl, rfl, trivial⟩ (Ent.re [2,0,1,3,4,5,6] rfl) ?_
 rintro ⟨i, G1, gl⟩ ⟨hi, hl, hq⟩
 dsimp only at hi hl hq ⊢
 by_cases h1 : i < 1
 ·obtain rfl : i = 0 := by omega
  obtain rfl : gl = [] := List.eq_nil_of_length_eq_zero hl
  refine Xdo ?_
  refine Sr ?_
  refine Lq (Q_ixAt 3 0 rfl rfl rfl rfl Nat.zero_lt_one rfl) ?_
  refine Lq (Q_ldEAt 3 0 0 (v := CS.v) rfl rfl rfl rfl Nat.zero_lt_one (by decide) rfl) ?_
  refine Xi ?_
  refine DH [0] [0,1,2,3,4,5,6,7,8,9,13,14] (.quiet 0 (.quiet 1 (.quiet 2 (.quiet 3 (.quiet 4 (.quiet 5 (.quiet 6 (.quiet 7 (.quiet 8 (.quiet 9 (.loud 10 (.loud 11 (.loud 12 (.quiet 13 (.quiet 14 (.loud 15 .done)))))))))))))))) Tryz.mixed ?_
  refine Xak ?_
  refine XaX ?_
  refine XU ?_
  refine XaE ?_
  refine XaX ?_
  refine XU ?_
  refine S_o rfl rfl rfl rfl (O_call [4,5] [0,1,2,3,6] hg rfl rfl ?_)
  (rintro _ _ ⟨pga, g, rfl, g1, g2, g3, rfl⟩; refine ⟨_, fun _ => ⟨Ent.reN [3] rfl, Ent.refl _⟩, ?_⟩)
  refine Xa ?_
  refine S_o rfl rfl rfl rfl (O_litP (τ := tGp) (m := 1) (sz := 1) [pga] rfl rfl rfl rfl rfl rfl (by decide) (fun U => ⟨_, fun _ => ⟨Ent.reN [4] rfl, Ent.refl _⟩, ?_⟩))
  refine Xa ?_
  refine S_o rfl rfl rfl rfl (O_app (τ := tGp) 5 rfl (fun w h => h.rd 0 rfl) rfl rfl rfl rfl (by show (0 + 1) * 8 ≤ 140737488355328; decide) (by decide) (fun G2 => ⟨_, fun _ => ⟨Ent.reN [4] rfl, Ent.refl _⟩, ?_⟩))
  refine Xa ?_
  refine Sq (Ent.re [4] rfl) rfl (Q_nilCheck rfl) ?_
  refine Sq (Ent.re [4] rfl) rfl (Q_fa0 rfl) ?_
  refine S_s rfl rfl rfl (O_st1 4 rfl rfl rfl rfl rfl ⟨[], free_no (by kernel_rfl), ?_⟩)
  refine Xaq ?_
  refine X8 ?_
  refine Xcg ?_
  exact loopQ_normal (1, G2, [(pga, g)]) ⟨Nat.le_refl _, rfl, fun q hq => by rw [List.mem_singleton.1 hq]; exact ⟨g1, g2, g3⟩⟩ (by show 1 - 1 < 1 - 0; decide) ⟨rfl, rfl, rfl, rfl, trivial⟩ ((Ent.re [1,6,4,5,7,2,3,8] rfl).trans ((Ent.last_in gaE [] (pga, g)).trans (Ent.re [1,2,0,3,4,5,6] rfl)))
 ·obtain rfl : i = 1 := by omega
  match gl, hl with
  | [q], _ =>
   refine Xdl ?_
   refine XbA ?_
   exact retQ_normal [] [_, _, _] .nil ⟨G1, q.1, q.2, rfl, hq q (List.mem_singleton.2 rfl), rfl⟩ ((Ent.re [2,0,1,6] rfl).trans ((Ent.last_out gaE [] q).trans (Ent.re [2,3,0,4] rfl)))
end
end Go.Proofs
