/- Part 45 of the texts below the row: Seal6, Sl48, Seal7, Seal8, SealL. -/
import Derived.Test.YtdggicfcpcjjlaaGreatDoorM1
import Derived.Test.YtdggicfcpcjjlaaGreatDoorM10
import Derived.Test.YtdggicfcpcjjlaaGreatDoorM13
import Derived.Test.YtdggicfcpcjjlaaGreatDoorM26
import Derived.Test.YtdggicfcpcjjlaaGreatDoorM29
import Derived.Test.YtdggicfcpcjjlaaGreatDoorM44
/- Seal: a head read. -/
set_option autoImplicit false
namespace Go.Proofs
open Go.SL
def rdA (n : Nat) : Nat → Nat
 | 0 => 0
 | 1 => n / 2 ^ 24
 | 2 => n / 2 ^ 16
 | 3 => n / 2 ^ 8
 | _ => n
theorem or_i64 : ∀ a : Fin 16, ∀ b : Fin 256, IntKind.i64.wrap ((BitVec.ofInt IntKind.i64.bits ((a.val * 2 ^ 8 : Nat) : Int) ||| BitVec.ofInt IntKind.i64.bits ((b.val : Nat) : Int)).toNat : Int) = ((a.val * 256 + b.val : Nat) : Int) := by decide +kernel
theorem rdA_step (n i : Nat) (hn : n ≤ 2048) (hi : i < 4) : rdA n i < 16 ∧ rdA n i * 256 + ((four n)[i]'(by simp [four]; omega)).toNat = rdA n (i + 1) := by
 have h3 : n / 2 ^ 24 = 0 := by omega
 have h2 : n / 2 ^ 16 = 0 := by omega
 match i, hi with
 | 0, _ => simp [rdA, four, h3]
 | 1, _ => simp [rdA, four, h3, h2]
 | 2, _ =>
  simp [rdA, four, h2]
  omega
 | 3, _ =>
  simp [rdA, four]
  omega
/-- A file's form: what stands ahead. -/
structure Form (s : List UInt8) (P : Ec.Af Nt.pP) (n : Nat) : Prop where
 mark : s.take 4 = mark4
 pt : (s.take 37).drop 4 = encP P
 num : (s.take 41).drop 37 = four n
 le : n ≤ 2048
 len : s.length = 41 + n + 16 * chunksN n
 on : P.y * P.y = sideF P.x
attribute [local irreducible] J JL QOp JOp seqQ blockQ loopQ retQ slc cel hex star pur stars Does RV Ent pAt scopeQ JR seqR endR JLI DoesY
theorem read_ok (E : World) (s : List UInt8) (P : Ec.Af Nt.pP) (n : Nat) (h : Form s P n) : Does Tryz.prog E 39 [str s] [] fun v L => v = .tuple #[(pwA P).v, .int .i64 (n : Int)] ∧ L = [] := by
 refine Does.of Tryz.func39 rfl Tryz.ntmps39 rfl rfl fun F => ?_
 refine J.norm ?_
 have hn := h.le
 have hs := h.len
 have hc : chunksN n ≤ 100 := by unfold chunksN; omega
 have hpre := hasprefix_ok E s mark4 (by show 4 ≤ _; omega)
 rw [show s.take mark4.length = mark4 from h.mark, decide_eq_true rfl] at hpre
 have hdec := decode_ok E P h.on
 have hlong := slong_ok E n hn
 have hnum := h.num
 have hpt := h.pt
 refine Sr ?_
 refine L_o rfl rfl rfl (O_alloc fun b2 => ?_)
 refine Xx ?_
 refine XN ?_
 refine Lq ((Q_geq rfl rfl).as (v' := .bool true) (congrArg Value.bool (decide_eq_true ((by show (41 : Int) ≤ (s.length : Nat); omega))))) ?_
 refine L_o rfl rfl rfl (O_callP (must_ok E 2) rfl ?_)
 refine Xby ?_
 refine XA ?_
 refine Lq ((Q_ssLH 37 41 rfl rfl rfl rfl rfl (by decide) (by omega)).as (v' := str (four n)) (by rw [hnum])) ?_
 refine L_o rfl rfl rfl (O_s2b tB_enc rfl rfl (by simp [four]) (fun S => ?_))
 refine Xc ?_
 refine Xba ?_
 refine J_loop (fun i : Nat => i ≤ 4) (fun i => [(0, str s), (2, .pointer (some ⟨b2, 0, none⟩)), (4, .int .i64 (rdA n i : Int)), (15, S.v), (16, .int .i64 4), (17, .int .i64 (i : Int))]) (fun i => [slc tB true S (four n), cel b2 [u64 0, u64 0, u64 0, u64 0, u64 0, u64 0, u64 0, u64 0, .bool false] 32, F]) (fun i => 4 - i) 0 (Nat.zero_le _) ⟨rfl, rfl, rfl, rfl, rfl, rfl, trivial⟩ (Ent.refl _) ?_
 intro i hi
 by_cases h4 : i < 4
 ·obtain ⟨r1, r2⟩ := rdA_step n i hn h4
  have hor := or_i64 ⟨rdA n i, r1⟩ ⟨((four n)[i]'(by simp [four]; omega)).toNat, UInt8.toNat_lt _⟩
  dsimp only at hor
  rw [r2] at hor
  refine Xaz ?_
  refine Lq (Q_ixAt 0 i rfl rfl rfl rfl h4 rfl) ?_
  refine Lq (Q_ldEAt 0 i 0 (v := w8 ((four n)[i]'(by simp [four]; omega))) rfl rfl rfl rfl h4 (by decide) rfl) ?_
  refine Xi ?_
  refine Xe ?_
  refine Lq (Q_shlZ (rdA n i) 8 rfl rfl rfl rfl (by decide) (by omega)) ?_
  refine Xd ?_
  refine Lq (Q_cvt rfl (IntWalk.i64_in _ (by have := UInt8.toNat_lt ((four n)[i]'(by simp [four]; omega)); omega))) ?_
  refine Lq (Q_or rfl rfl hor) ?_
  refine Xj ?_
  refine XaS ?_
  exact Xf1
 ·obtain rfl : i = 4 := by omega
  refine Xbb ?_
  refine Xg ?_
  refine L_o rfl rfl rfl (O_callP (hpre) rfl ?_)
  refine Xf ?_
  refine Lq ((Q_leq rfl rfl).as (v' := .bool true) (congrArg Value.bool (decide_eq_true ((by show (n : Int) ≤ 2048; omega))))) ?_
  refine XaD ?_
  refine L_o rfl rfl rfl (O_callP (must_ok E 3) rfl ?_)
  refine Ln ?_
  refine Xg ?_
  refine Lq ((Q_ssLH 4 37 rfl rfl rfl rfl rfl (by decide) (by omega)).as (v' := str (encP P)) (by rw [hpt])) ?_
  refine L_o rfl rfl rfl (O_callP (hdec) rfl ?_)
  refine XK ?_
  refine L_o rfl rfl rfl (O_alloc fun b7 => ?_)
  refine Xz ?_
  refine Xx ?_
  refine Xai ?_
  refine Xd ?_
  refine L_o rfl rfl rfl (O_callP (must_ok E 0) rfl ?_)
  refine Ln ?_
  refine Xg ?_
  refine XN ?_
  refine Xd ?_
  refine L_o rfl rfl rfl (O_callP (hlong) rfl ?_)
  refine Lq ((Q_eql rfl rfl).as (v' := .bool true) (congrArg Value.bool (decide_eq_true ((by rw [hs]))))) ?_
  refine L_o rfl rfl rfl (O_callP (must_ok E 2) rfl ?_)
  refine Ln ?_
  refine Xo ?_
  refine Xd ?_
  exact Xe1
end Go.Proofs
/- Allocations that float, behind a deferred call. -/
set_option autoImplicit false
namespace Go.SL
theorem JD_flo {P : Program} {E : World} {n : Nat} {Q : Post} {ds : List Deferred} {id : Nat} {l : List Oper} {H : List HProp} {ρ : Env} {L : List HProp} (idx quiet : List Nat) (aS : List AlS) (ms : List (Bool × Nat)) (r : Sched) (hm : P.follows .mixedOrders = true)
 (hsel : Region.noSelect l.toArray = true) (hc : (decide ((aS.map (·.i)).Nodup) && decide ((aS.map (·.d)).Nodup) && decide (aS.length + ms.length ≤ l.length) && okDs l (aS.map (·.d)) ms && okFlo l.toArray quiet (aS.map (·.i)) r (l.length - aS.length) ms (Array.replicate l.length false)) = true)
 [NormL (pick idx L) H] (hal : ∀ s ∈ aS, AlOk P E n l s) (hρ : (aS.all fun s => (ρ.get s.d).isNone) = true)
 (h : JSF P E n l quiet (fun H ρ L => ∀ β, JS P E n l quiet Q r H (putA β aS ρ) (chA β aS ++ L)) ms H ρ L) : JD P E n ds (.region id l.toArray true) Q ρ L := fun a w ha hs => by
 simp only [Bool.and_eq_true, decide_eq_true_eq] at hc
 obtain ⟨⟨⟨⟨h1, h2⟩, h3⟩, h4⟩, h5⟩ := hc
 refine wp_region_any hm (wpAny_late (Q := lift E n (nrmQ Q)) (fun e a' w' ⟨ρ', L', hQ, ha', hs'⟩ => by obtain ⟨rfl, hQ⟩ := hQ; exact ⟨ρ', L', a', rfl, hQ, ha', hs'⟩) _ _ _ _ (wpAny_of_G (fr := frOf l.toArray quiet) _ (fun w => Sat E w H) _ _ _ ?_))
 have hz : (Array.replicate l.length false) = markD (([] : List AlS).map (·.i)) (Array.replicate l.length false) := rfl
 have hsz : l.toArray.size = l.length := by simp
 rw [hsz, hz]
 refine JSF.sound (Q := nrmQ Q) hsel (fun c ρ L h => by cases h.1) hal h1 h2 (fun _ _ _ h β => JS.nrm _ _ _ _ (h β)) l.length (l.length - aS.length) ms _ [] aS (fun _ => 0) H ρ L a _ (by omega) (List.Perm.refl _) h5 h4 ?_ ?_ h ha (by simp) ?_
 ·have := Closed.start (md := .any) (ops := l.toArray)
  rw [hsz] at this
  exact this
 ·intro s hs'
  have := List.all_eq_true.1 hρ s hs'
  simpa using this
 ·exact Ent.stars_nil E _ (hs.drawn _)
end Go.SL
/- Seal: a file opened. -/
set_option autoImplicit false
namespace Go.Proofs
open Go.SL
def opR (c : List UInt8) (n : Nat) : Nat → List UInt8
 | 0 => c
 | _ + 1 => c.drop (n + 16)
def opT (x : List UInt8) : Nat → List UInt8
 | 0 => []
 | _ + 1 => [] ++ x
theorem one_chunk {n : Nat} (h2 : n ≤ 256) : chunksN n = 1 := by unfold chunksN; omega
attribute [local irreducible] J JL QOp JOp seqQ blockQ loopQ retQ slc cel hex star pur stars Does RV Ent pAt scopeQ JR seqR endR JLI DoesY
attribute [local irreducible] JD JW JWL seqD endQ aeG xrS chK ofK
theorem open_ok (E : World) [hE : LaidE E] (k : W4) (hk : k.ok) (hq : k.n < Nt.pQ) (h0 : k.n ≠ 0) (B : Pt) (P : Ec.Af Nt.pP) (hB : B.p = some P) (s : List UInt8) (n : Nat) (hf : Form s P n) (h1 : 1 ≤ n) (h2 : n ≤ 256) (key : List UInt8) (hkey : key = ofK (kP k.n B) B (kP k.n gP)) :
 Does Tryz.prog E 9 [k.v, str s] [] fun v L => L = [] ∧ v = if aeG key (nonceB 0) (s.take 41) ((s.drop 41).take n) = (s.drop 41).drop n then .tuple #[str (xrS (chK key (nonceB 0) 1) ((s.drop 41).take n)), .int .i64 0] else .tuple #[str [], .int .i64 4] := by
 have hsec := secret_ok E k hk hq h0
 have hread := read_ok E s P n hf
 have hown : own (pwA P) = B := by rw [← pw_some hB, own_pw]
 have hmul := mul_ok E k hk (pwA P) (pwA_ok P)
 rw [hown] at hmul
 have hbase := base_ok E k hk
 obtain ⟨ka, kb, kc, kd⟩ := k
 refine Does.deferred Tryz.func9 rfl Tryz.ntmps9 rfl fun F => ?_
 refine JW.norm ?_
 refine JW_seq ?_
 refine Xh ?_
 refine L_o rfl rfl rfl (O_box rfl fun b2 => ?_)
 refine L_o rfl rfl rfl (O_alloc fun b4 => ?_)
 refine L_o rfl rfl rfl (O_alloc fun b5 => ?_)
 refine JL_nil ?_
 refine ⟨rfl, ?_⟩
 refine JW_defer (ys := [.tmp 4, .tmp 5]) rfl rfl ?_
 refine JWL_of rfl (oclose_calm E _ _) ?_
 refine JD_seq ?_
 refine JD_region ?_
 refine X0 ?_
 refine L_o rfl rfl rfl (O_callP (hsec) rfl ?_)
 refine L_o rfl rfl rfl (O_callP (must_ok E 1) rfl ?_)
 refine Xbi ?_
 refine Xbw ?_
 refine L_o rfl rfl rfl (O_callP (hread) rfl ?_)
 refine XK ?_
 refine L_o rfl rfl rfl (O_alloc fun b6 => ?_)
 refine Xz ?_
 refine Xj ?_
 refine Xao ?_
 have hof := sof_ok E (pw (kP (W4.n ⟨ka, kb, kc, kd⟩) B)) (pwA P) (pw (kP (W4.n ⟨ka, kb, kc, kd⟩) gP)) (pw_ok _) (pwA_ok P) (pw_ok _) P (by rw [hown]; exact hB) (s.take 41)
 rw [own_pw, own_pw, hown, ← hkey] at hof
 have hsl : s.length = 41 + n + 16 := by have := hf.len; rw [one_chunk h2] at this; omega
 generalize pw (kP (W4.n ⟨ka, kb, kc, kd⟩) B) = pS at *
 generalize pw (kP (W4.n ⟨ka, kb, kc, kd⟩) gP) = pK at *
 refine JD_flo [0,3] [0,1,3,4,6,7] [⟨9, 8, 76, [.string ByteArray.empty, .string ByteArray.empty]⟩] [(false, 0), (false, 1), (false, 3), (false, 4), (false, 6), (false, 7), (true, 2), (true, 5), (true, 8)] (.loud 10 .done) Tryz.mixed (by kernel_rfl) (by kernel_rfl) (List.forall_mem_cons.2 ⟨AlOk.of rfl rfl rfl, (List.forall_mem_nil _)⟩) rfl ?_
 refine XfT ?_
 refine F_q (Ent.re [0,3] rfl) rfl (Q_ldA 0 rfl rfl rfl) rfl rfl rfl ?_
 refine F_q (Ent.re [0,3] rfl) rfl (Q_ldA 1 rfl rfl rfl) rfl rfl rfl ?_
 refine F_q (Ent.re [0,3] rfl) rfl (Q_move rfl) rfl rfl rfl ?_
 refine F_q (Ent.re [0,3] rfl) rfl (Q_ssH 41 rfl rfl rfl (by omega)) rfl rfl rfl ?_
 refine F_o (Ent.re [0,3] rfl) rfl rfl rfl rfl fun X => O_callP (hmul) rfl ⟨_, _, rfl, fun _ => ⟨(Ent.re [0,3] rfl), Ent.refl _⟩, ?_⟩
 refine F_o (Ent.re [0,3] rfl) rfl rfl rfl rfl fun X => O_callP (hbase) rfl ⟨_, _, rfl, fun _ => ⟨(Ent.re [0,3] rfl), Ent.refl _⟩, ?_⟩
 refine F_o (Ent.re [0,3] rfl) rfl rfl rfl rfl fun X => O_callP (hof) rfl ⟨_, _, rfl, fun _ => ⟨(Ent.re [0,3] rfl), Ent.refl _⟩, ?_⟩
 refine F_nil (Ent.re [0,3] rfl) (land1 fun b8 => ?_)
 refine Xau ?_
 refine S_nil ?_
 refine Xao ?_
 have hch := schunks_ok E n (by omega)
 rw [one_chunk h2] at hch
 have hcl : (s.drop 41).length = n + 16 := by rw [List.length_drop]; omega
 have hkl : key.length = 32 := by rw [hkey]; exact ofK_len _ _ _
 have hop := aopen_ok E key (nonceB 0) (s.drop 41) (s.take 41) hkl (nonceB_len 0) (by omega) (by omega) (by rw [List.length_take]; omega)
 rw [hcl, Nat.add_sub_cancel] at hop
 have hxl := xrS_len (chK key (nonceB 0) 1) ((s.drop 41).take n)
 have htl : ((s.drop 41).take n).length = n := by rw [List.length_take]; omega
 have hno := snonce_ok E 0 (by decide)
 rw [htl] at hxl
 generalize xrS (chK key (nonceB 0) 1) ((s.drop 41).take n) = x at *
 generalize aeG key (nonceB 0) (s.take 41) ((s.drop 41).take n) = g at *
 generalize (s.drop 41).drop n = tg at *
 have hxn : x ≠ [] := fun h => by rw [h] at hxl; simp at hxl; omega
 have hcc : (s.drop 41).take (n + 16) = s.drop 41 := List.take_of_length_le (by omega)
 refine JD_region ?_
 refine L_o rfl rfl rfl (O_alloc fun b9 => ?_)
 refine Xbi ?_
 refine Xbw ?_
 refine Lq (Q_ssL 41 rfl rfl rfl (by omega)) ?_
 refine Xj ?_
 refine Xao ?_
 refine JD_seq ?_
 refine Xbw ?_
 refine L_o rfl rfl rfl (O_callP (hch) rfl ?_)
 refine Xd ?_
 refine JL_nil ?_
 refine seqD_normal ?_
 refine JD_block ?_
 refine JD.ent (Ent.mk fun _ _ h => (h.lay_nil tB true : Sat _ _ (slc tB true SV.nil [] :: _))) ?_
 refine JD_loop (fun i : Nat × SV × Option Addr => i.1 ≤ 1 ∧ (i.2.2 = none ∨ i.2.2 = some ⟨b9, 0, none⟩) ∧ (i.1 = 1 → g = tg)) (fun i => [(4, .pointer (some ⟨b4, 0, none⟩)), (5, .pointer (some ⟨b5, 0, none⟩)), (7, .int .i64 (n : Int)), (8, .pointer (some ⟨b8, 0, none⟩)), (9, .pointer (some ⟨b9, 0, none⟩)), (10, str (opR (s.drop 41) n i.1)), (36, .int .i64 1), (37, .int .i64 (i.1 : Int))]) (fun i => [cel b9 [.pointer i.2.2, i.2.1.v] 83, slc tB true i.2.1 (opT x i.1), cel b8 [str key, str (s.take 41)] 76, cel b5 [.int .i64 0] 28, cel b4 [str []] 9, F]) (fun i => 1 - i.1) (0, SV.nil, none) ⟨Nat.zero_le _, .inl rfl, fun h => by cases h⟩ ⟨rfl, rfl, rfl, rfl, rfl, rfl, rfl, rfl, trivial⟩ (Ent.re [1,0,2,4,5,7] rfl) ?_
 rintro ⟨i, S, q0⟩ ⟨hi, hq0, hg⟩
 dsimp only at hi hq0 hg ⊢
 by_cases h1' : i < 1
 ·obtain rfl : i = 0 := by omega
  have hbw := bwrite_ok E b9 q0 hq0 S [] x (by simp only [List.length_nil]; omega)
  refine JD_seq ?_
  refine JD_region ?_
  refine XbV ?_
  refine Xbi ?_
  refine JD_condT rfl ?_
  refine JD_skip ?_
  refine Xao ?_
  refine JD_block ?_
  refine JD_seq ?_
  refine Xbw ?_
  refine Xj ?_
  refine Xao ?_
  refine JD_region ?_
  refine Xf ?_
  refine Lq ((Q_mul rfl rfl (IntWalk.i64_in _ (by omega))).as (v' := .int .i64 0) (congrArg (Value.int .i64) (by omega))) ?_
  refine Lq ((Q_sub rfl rfl (IntWalk.i64_in _ (by omega))).as (v' := .int .i64 (n : Int)) (congrArg (Value.int .i64) (by omega))) ?_
  refine Lq ((Q_min2 rfl rfl).as (v' := .int .i64 (n : Int)) (congrArg (Value.int .i64) (by omega))) ?_
  refine Lq ((Q_add rfl rfl (IntWalk.i64_in _ (by omega))).as (v' := .int .i64 ((n + 16 : Nat) : Int)) rfl) ?_
  refine Xj ?_
  refine Xao ?_
  by_cases he : g = tg
  ·rw [if_pos he] at hop
   refine Xfj ?_
   refine Xbs ?_
   refine X4 ?_
   refine X4 ?_
   refine Sq (Ent.re [2] rfl) rfl ((Q_ssH (n + 16) rfl rfl rfl (by show n + 16 ≤ (s.drop 41).length; rw [hcl]; exact Nat.le_refl _)).as (v' := str (s.drop 41)) (by show str ((s.drop 41).take (n + 16)) = _; rw [hcc])) ?_
   refine XeS ?_
   refine S_o rfl rfl rfl rfl (O_callP (hno) rfl ⟨_, fun _ => ⟨Ent.reN [2] rfl, Ent.refl _⟩, ?_⟩)
   refine Xa ?_
   refine S_o rfl rfl rfl rfl (O_callP (hop) rfl ⟨_, fun _ => ⟨Ent.reN [2] rfl, Ent.refl _⟩, ?_⟩)
   refine Xa ?_
   refine X4 ?_
   refine XeX ?_
   refine Xcs ?_
   refine S_nil ?_
   refine Xao ?_
   refine Xbw ?_
   refine Xai ?_
   refine L_o rfl rfl rfl (O_callP (must_ok E 4) rfl ?_)
   refine Xbi ?_
   refine Xbw ?_
   refine L_o rfl rfl rfl (O_call [0,1] [2,3,4,5] hbw rfl rfl ?_)
   rintro _ _ ⟨S', rfl, rfl⟩
   refine X6 ?_
   refine seqD_normal ?_
   refine JD_region ?_
   refine Xf ?_
   refine Lq (Q_ssL (n + 16) rfl rfl rfl (by show n + 16 ≤ (s.drop 41).length; rw [hcl]; exact Nat.le_refl _)) ?_
   refine Xj ?_
   refine blockQ_normal ?_
   refine seqD_normal ?_
   refine JD_region ?_
   refine Xcg ?_
   exact loopQ_normal (1, S', some ⟨b9, 0, none⟩) ⟨Nat.le_refl _, .inr rfl, fun _ => he⟩ (by show 1 - 1 < 1 - 0; decide) ⟨rfl, rfl, rfl, rfl, rfl, rfl, rfl, rfl, trivial⟩ (Ent.refl _)
  ·rw [if_neg he] at hop
   refine Xfj ?_
   refine Xbs ?_
   refine X4 ?_
   refine X4 ?_
   refine Sq (Ent.re [2] rfl) rfl ((Q_ssH (n + 16) rfl rfl rfl (by show n + 16 ≤ (s.drop 41).length; rw [hcl]; exact Nat.le_refl _)).as (v' := str (s.drop 41)) (by show str ((s.drop 41).take (n + 16)) = _; rw [hcc])) ?_
   refine XeS ?_
   refine S_o rfl rfl rfl rfl (O_callP (hno) rfl ⟨_, fun _ => ⟨Ent.reN [2] rfl, Ent.refl _⟩, ?_⟩)
   refine Xa ?_
   refine S_o rfl rfl rfl rfl (O_callP (hop) rfl ⟨_, fun _ => ⟨Ent.reN [2] rfl, Ent.refl _⟩, ?_⟩)
   refine Xa ?_
   refine X4 ?_
   refine XeX ?_
   refine Xcs ?_
   refine S_nil ?_
   refine Xao ?_
   refine Xbw ?_
   refine Xbo ?_
   refine L_callP [] [0,1,2,3,4,5] (must_no E 4) rfl rfl ?_
   rintro _ _ ⟨rfl, rfl⟩
   refine seqD_panic ?_
   refine blockQ_panic ?_
   refine seqD_panic ?_
   refine loopQ_panic ?_
   refine blockQ_panic ?_
   refine seqD_panic ?_
   refine endQ_panic (pre := [cel b4 [str []] 9, cel b5 [.int .i64 0] 28]) (R := [F]) (Ent.reN [4,3,5] rfl) (oclose_got E b4 b5 [] 0 4) _ [] (.cons (RV_cell1 0 rfl rfl rfl rfl) (.cons (RV_cell1 1 rfl rfl rfl rfl) .nil)) ⟨rfl, ?_⟩ (Ent.reN [2] rfl)
   rw [if_neg he]; rfl
 ·obtain rfl : i = 1 := by omega
  have hbs := bstring_ok E b9 q0 S x hxn
  refine JD_seq ?_
  refine JD_region ?_
  refine Xat ?_
  refine Xbi ?_
  refine JD_condF rfl ?_
  refine JD_exit ?_
  refine seqD_exit ?_
  refine Xbr ?_
  refine Xao ?_
  refine JD_region ?_
  refine L_o rfl rfl rfl (O_call [0,1] [2,3,4,5] hbs rfl rfl ?_)
  rintro _ _ ⟨rfl, rfl⟩
  refine Xc ?_
  refine L_s rfl rfl (O_st1 2 rfl rfl rfl rfl rfl ?_)
  refine Xc ?_
  refine Xcb ?_
  refine seqD_normal ?_
  refine JD_ret ?_
  refine endQ_ret _ [] (.cons (RV_cell1 2 rfl rfl rfl rfl) (.cons (RV_cell1 1 rfl rfl rfl rfl) .nil)) ⟨rfl, ?_⟩ (Ent.re [3] rfl)
  rw [if_pos (hg rfl)]; rfl
end Go.Proofs
/- Seal: a file sealed. -/
set_option autoImplicit false
namespace Go.Proofs
open Go.SL
/-- A file of one chunk. -/
noncomputable def fileS (A : Pt) (r : Nat) (P : List UInt8) (l : List UInt8) : List UInt8 := headB P l.length ++ aeS (ofK (kP r A) (kP r gP) A) (nonceB 0) l (headB P l.length)
def sT (hd x : List UInt8) : Nat → List UInt8
 | 0 => [] ++ hd
 | _ + 1 => [] ++ hd ++ x
attribute [local irreducible] J JL QOp JOp seqQ blockQ loopQ retQ slc cel hex star pur stars Does RV Ent pAt scopeQ JR seqR endR JLI DoesY
attribute [local irreducible] JD JW JWL seqD endQ aeS ofK
theorem sclose_calm (E : World) (a b : Value) : DoesR Tryz.prog E 24 [a, b] [] .returning .returning fun _ L => L = [] := by
 refine DoesR.of .calm Tryz.func24 rfl Tryz.ntmps24 rfl rfl rfl rfl fun F => ?_
 refine J.norm ?_
 refine Xg ?_
 refine Lq (Q_ineN rfl) ?_
 refine XaI ?_
 exact retQ_normal [] [] .nil rfl (Ent.refl _)
theorem seal_ok (E : World) [hE : LaidE E] (p : Pw) (hp : p.ok) (r : W4) (hr : r.ok) (hq : r.n < Nt.pQ) (h0 : r.n ≠ 0) (A : Pt) (hA : own p = A) (PA : Ec.Af Nt.pP) (hPA : A.p = some PA) (PB : Ec.Af Nt.pP) (hPB : (kP r.n gP).p = some PB) (l : List UInt8) (h1 : 1 ≤ l.length) (h2 : l.length ≤ 256) :
 Does Tryz.prog E 7 [p.v, r.v, str l] [] fun v L => L = [] ∧ v = .tuple #[str (fileS A r.n (encP PB) l), .int .i64 0] := by
 have hown := own_ok E p hp
 rw [hA] at hown
 have hsec := secret_ok E r hr hq h0
 have hbase := base_ok E r hr
 have henc := encode_ok E (pw (kP r.n gP)) (pw_ok _)
 rw [own_pw, hPB] at henc
 have hmul := mul_ok E r hr (pw A) (pw_ok A)
 rw [own_pw] at hmul
 have hbeg := sbegin_ok E (encP PB) l.length (by rw [encP_len]; decide) (by omega)
 have hof := sof_ok E (pw (kP r.n A)) (pw (kP r.n gP)) (pw A) (pw_ok _) (pw_ok _) (pw_ok _) PB (by rw [own_pw]; exact hPB) (headB (encP PB) l.length)
 rw [own_pw, own_pw, own_pw] at hof
 have hch := schunks_ok E l.length (by omega)
 rw [one_chunk h2] at hch
 have hno := snonce_ok E 0 (by decide)
 have hhl : (headB (encP PB) l.length).length = 41 := by
  unfold headB; rw [List.length_append, List.length_append, encP_len]; rfl
 have hse := aseal_ok E (ofK (kP r.n A) (kP r.n gP) A) (nonceB 0) l (headB (encP PB) l.length) (ofK_len _ _ _) (nonceB_len 0) (by omega) (by omega)
 have hxl := aeS_len (ofK (kP r.n A) (kP r.n gP) A) (nonceB 0) l (headB (encP PB) l.length)
 unfold fileS
 generalize aeS (ofK (kP r.n A) (kP r.n gP) A) (nonceB 0) l (headB (encP PB) l.length) = x at *
 generalize ofK (kP r.n A) (kP r.n gP) A = key at *
 have hpn : (pw A).none = false := by unfold pw; rw [hPA]; rfl
 generalize headB (encP PB) l.length = hd at *
 generalize pw (kP r.n A) = pS at *
 generalize pw (kP r.n gP) = pB at *
 generalize hpa : pw A = pA at *
 obtain ⟨xa, ya, na⟩ := pA
 dsimp only at hpn
 subst hpn
 obtain ⟨ra, rb, rc, rd⟩ := r
 obtain ⟨px, py, pn⟩ := p
 refine Does.deferred Tryz.func7 rfl Tryz.ntmps7 rfl fun F => ?_
 refine JW.norm ?_
 refine JW_seq ?_
 refine Xh ?_
 refine L_o rfl rfl rfl (O_box rfl fun b3 => ?_)
 refine L_o rfl rfl rfl (O_box rfl fun b4 => ?_)
 refine L_o rfl rfl rfl (O_alloc fun b6 => ?_)
 refine L_o rfl rfl rfl (O_alloc fun b7 => ?_)
 refine JL_nil ?_
 refine ⟨rfl, ?_⟩
 refine JW_defer (ys := [.tmp 6, .tmp 7]) rfl rfl ?_
 refine JWL_of rfl (sclose_calm E _ _) ?_
 refine JD_seq ?_
 refine JD_region ?_
 refine Xa5 ?_
 refine L_o rfl rfl rfl (O_callP (hown) rfl ?_)
 refine Xdw ?_
 refine X6 ?_
 refine Xao ?_
 refine JD_region ?_
 refine X0 ?_
 refine L_o rfl rfl rfl (O_callP (hsec) rfl ?_)
 refine L_o rfl rfl rfl (O_callP (must_ok E 1) rfl ?_)
 refine Xbi ?_
 refine Xbw ?_
 refine XN ?_
 refine Lq ((Q_leq rfl rfl).as (v' := .bool true) (congrArg Value.bool (decide_eq_true (by omega)))) ?_
 refine L_o rfl rfl rfl (O_callP (must_ok E 2) rfl ?_)
 refine Xbi ?_
 refine JD_region ?_
 refine XD ?_
 refine Lq (Q_ld 3 rfl rfl rfl rfl) ?_
 refine Xcl ?_
 refine L_o rfl rfl rfl (O_callP (must_ok E 5) rfl ?_)
 refine Xbi ?_
 refine JD_region ?_
 refine X0 ?_
 refine L_o rfl rfl rfl (O_callP (hbase) rfl ?_)
 refine L_o rfl rfl rfl (O_alloc fun b8 => ?_)
 refine Xz ?_
 refine Xbi ?_
 refine JD_region ?_
 refine X1 ?_
 refine L_o rfl rfl rfl (O_callP (henc) rfl ?_)
 refine XK ?_
 refine XaN ?_
 refine Xj ?_
 refine Xao ?_
 refine JD_flo [0,3,4] [0,1,3,4,5,6,7] [⟨10, 11, 76, [.string ByteArray.empty, .string ByteArray.empty]⟩] [(false, 0), (false, 1), (false, 3), (false, 4), (false, 5), (false, 6), (false, 7), (true, 2), (true, 8), (true, 9)] (.loud 11 .done) Tryz.mixed (by kernel_rfl) (by kernel_rfl) (List.forall_mem_cons.2 ⟨AlOk.of rfl rfl rfl, (List.forall_mem_nil _)⟩) rfl ?_
 refine F_q (Ent.re [0,3,4] rfl) rfl (Q_ldA 1 rfl rfl rfl) rfl rfl rfl ?_
 refine F_q (Ent.re [0,3,4] rfl) rfl (Q_ldA 2 rfl rfl rfl) rfl rfl rfl ?_
 refine F_q (Ent.re [0,3,4] rfl) rfl (Q_ldA 0 rfl rfl rfl) rfl rfl rfl ?_
 refine F_q (Ent.re [0,3,4] rfl) rfl (Q_ldA 2 rfl rfl rfl) rfl rfl rfl ?_
 refine F_q (Ent.re [0,3,4] rfl) rfl (Q_move rfl) rfl rfl rfl ?_
 refine F_q (Ent.re [0,3,4] rfl) rfl (Q_move rfl) rfl rfl rfl ?_
 refine F_q (Ent.re [0,3,4] rfl) rfl (Q_slen rfl) rfl rfl rfl ?_
 refine F_o (Ent.re [0,3,4] rfl) rfl rfl rfl rfl fun X => O_callP (hmul) rfl ⟨_, _, rfl, fun _ => ⟨(Ent.re [0,3,4] rfl), Ent.refl _⟩, ?_⟩
 refine F_o (Ent.re [0,3,4] rfl) rfl rfl rfl rfl fun X => O_callP (hbeg) rfl ⟨_, _, rfl, fun _ => ⟨(Ent.re [0,3,4] rfl), Ent.refl _⟩, ?_⟩
 refine F_o (Ent.re [0,3,4] rfl) rfl rfl rfl rfl fun X => O_callP (hof) rfl ⟨_, _, rfl, fun _ => ⟨(Ent.re [0,3,4] rfl), Ent.refl _⟩, ?_⟩
 refine F_nil (Ent.re [0,3,4] rfl) (land1 fun b11 => ?_)
 refine Xau ?_
 refine S_nil ?_
 refine Xao ?_
 refine JD_region ?_
 refine L_o rfl rfl rfl (O_alloc fun b12 => ?_)
 refine Xbi ?_
 have hw1 := bwrite_ok E b12 none (.inl rfl) SV.nil [] hd (by simp only [List.length_nil]; omega)
 refine JD.ent (Ent.mk fun _ _ h => (h.lay_nil tB true : Sat _ _ (slc tB true SV.nil [] :: _))) ?_
 refine JD_region ?_
 refine Xee ?_
 refine L_o rfl rfl rfl (O_call [1,0] [2,3,4,5,6,7,8] hw1 rfl rfl ?_)
 rintro _ _ ⟨S1, rfl, rfl⟩
 refine X6 ?_
 refine Xao ?_
 refine JD_seq ?_
 refine Xbw ?_
 refine XN ?_
 refine L_o rfl rfl rfl (O_callP (hch) rfl ?_)
 refine Xd ?_
 refine JL_nil ?_
 refine seqD_normal ?_
 refine JD_block ?_
 refine JD_loop (fun i : Nat × SV => i.1 ≤ 1) (fun i => [(2, str l), (6, .pointer (some ⟨b6, 0, none⟩)), (7, .pointer (some ⟨b7, 0, none⟩)), (11, .pointer (some ⟨b11, 0, none⟩)), (12, .pointer (some ⟨b12, 0, none⟩)), (52, .int .i64 1), (53, .int .i64 (i.1 : Int))]) (fun i => [cel b12 [.pointer (some ⟨b12, 0, none⟩), i.2.v] 83, slc tB true i.2 (sT hd x i.1), cel b11 [str key, str hd] 76, cel b7 [.int .i64 0] 28, cel b6 [str []] 9, F]) (fun i => 1 - i.1) (0, S1) (Nat.zero_le _) ⟨rfl, rfl, rfl, rfl, rfl, rfl, rfl, trivial⟩ (Ent.re [0,1,2,4,5,8] rfl) ?_
 rintro ⟨i, S⟩ hi
 dsimp only at hi ⊢
 by_cases h1' : i < 1
 ·obtain rfl : i = 0 := by omega
  have hw2 := bwrite_ok E b12 (some ⟨b12, 0, none⟩) (.inr rfl) S ([] ++ hd) x (by rw [List.length_append, List.length_nil]; omega)
  refine JD_seq ?_
  refine JD_region ?_
  refine XbV ?_
  refine Xbi ?_
  refine JD_condT rfl ?_
  refine JD_skip ?_
  refine Xao ?_
  refine JD_block ?_
  refine JD_seq ?_
  refine Xbw ?_
  refine Xj ?_
  refine Xao ?_
  refine JD_drawH [2] [0,1,2,4,5,6,7,8,9,10,11,12,13,14,15,17,18,19,20,21] (.quiet 0 (.quiet 1 (.quiet 2 (.quiet 4 (.quiet 5 (.quiet 6 (.quiet 7 (.quiet 8 (.quiet 9 (.quiet 10 (.quiet 11 (.quiet 12 (.quiet 13 (.quiet 14 (.quiet 15 (.loud 3 (.loud 16 (.quiet 17 (.quiet 18 (.quiet 19 (.quiet 20 (.quiet 21 .done)))))))))))))))))))))) Tryz.mixed (by kernel_rfl) (by kernel_rfl) ?_
  refine XdA ?_
  refine Xbs ?_
  refine X4 ?_
  refine X4 ?_
  refine Sq (Ent.re [2] rfl) rfl ((Q_mul rfl rfl (IntWalk.i64_in _ (by omega))).as (v' := .int .i64 ((0 : Nat) : Int)) (congrArg (Value.int .i64) (by omega))) ?_
  refine X4 ?_
  refine Sq (Ent.re [2] rfl) rfl ((Q_add rfl rfl (IntWalk.i64_in _ (by omega))).as (v' := .int .i64 1) (congrArg (Value.int .i64) (by omega))) ?_
  refine Sq (Ent.re [2] rfl) rfl ((Q_mul rfl rfl (by rfl)).as (v' := .int .i64 256) rfl) ?_
  refine X4 ?_
  refine Sq (Ent.re [2] rfl) rfl (Q_slen rfl) ?_
  refine Sq (Ent.re [2] rfl) rfl ((Q_min2 rfl rfl).as (v' := .int .i64 (l.length : Int)) (congrArg (Value.int .i64) (by omega))) ?_
  refine Sq (Ent.re [2] rfl) rfl ((Q_ssLH 0 l.length rfl rfl rfl rfl rfl (Nat.zero_le _) (Nat.le_refl _)).as (v' := str l) (by rw [List.take_length, List.drop_zero])) ?_
  refine XeS ?_
  refine S_o rfl rfl rfl rfl (O_callP (hno) rfl ⟨_, fun _ => ⟨Ent.reN [2] rfl, Ent.refl _⟩, ?_⟩)
  refine Xa ?_
  refine S_o rfl rfl rfl rfl (O_callP (hse) rfl ⟨_, fun _ => ⟨Ent.reN [2] rfl, Ent.refl _⟩, ?_⟩)
  refine Xa ?_
  refine X4 ?_
  refine XeX ?_
  refine Xcs ?_
  refine S_nil ?_
  refine seqD_normal ?_
  refine Xbw ?_
  refine L_o rfl rfl rfl (O_call [0,1] [2,3,4,5] hw2 rfl rfl ?_)
  rintro _ _ ⟨S2, rfl, rfl⟩
  refine X6 ?_
  refine blockQ_normal ?_
  refine seqD_normal ?_
  refine JD_region ?_
  refine Xcg ?_
  exact loopQ_normal (1, S2) (Nat.le_refl _) (by show 1 - 1 < 1 - 0; decide) ⟨rfl, rfl, rfl, rfl, rfl, rfl, rfl, trivial⟩ (Ent.refl _)
 ·obtain rfl : i = 1 := by omega
  have hbs := bstring_ok E b12 (some ⟨b12, 0, none⟩) S ([] ++ hd ++ x) (fun h => by
   have := congrArg List.length h
   rw [List.length_append, List.length_append, List.length_nil] at this
   omega)
  refine JD_seq ?_
  refine JD_region ?_
  refine Xat ?_
  refine Xbi ?_
  refine JD_condF rfl ?_
  refine JD_exit ?_
  refine seqD_exit ?_
  refine Xbr ?_
  refine Xao ?_
  refine JD_region ?_
  refine L_o rfl rfl rfl (O_call [0,1] [2,3,4,5] hbs rfl rfl ?_)
  rintro _ _ ⟨rfl, rfl⟩
  refine Xc ?_
  refine L_s rfl rfl (O_st1 2 rfl rfl rfl rfl rfl ?_)
  refine Xc ?_
  refine Xcb ?_
  refine seqD_normal ?_
  refine JD_ret ?_
  exact endQ_ret _ [] (.cons (RV_cell1 2 rfl rfl rfl rfl) (.cons (RV_cell1 1 rfl rfl rfl rfl) .nil)) ⟨rfl, rfl⟩ (Ent.reN [3] rfl)
end Go.Proofs
/- Sealed and opened: by the key of its point, and by another one. -/
set_option autoImplicit false
namespace Go.Proofs
open Go.SL
theorem headB_len (P : Ec.Af Nt.pP) (n : Nat) : (headB (encP P) n).length = 41 := by
 unfold headB; rw [List.length_append, List.length_append, encP_len]; rfl
section
variable (A : Pt) (r : Nat) (P : Ec.Af Nt.pP) (l : List UInt8)
theorem fileS_take : (fileS A r (encP P) l).take 41 = headB (encP P) l.length := by
 unfold fileS; rw [← headB_len P l.length]; exact List.take_left
theorem fileS_drop : (fileS A r (encP P) l).drop 41 = aeS (ofK (kP r A) (kP r gP) A) (nonceB 0) l (headB (encP P) l.length) := by
 unfold fileS; rw [← headB_len P l.length]; exact List.drop_left
theorem fileS_form (hP : (kP r gP).p = some P) (h1 : 1 ≤ l.length) (h2 : l.length ≤ 256) : Form (fileS A r (encP P) l) P l.length := by
 have hl := headB_len P l.length
 have ha := aeS_len (ofK (kP r A) (kP r gP) A) (nonceB 0) l (headB (encP P) l.length)
 have ht := fileS_take A r P l
 have e4 : ∀ k, k ≤ 41 → (fileS A r (encP P) l).take k = (headB (encP P) l.length).take k := fun k hk => by
  rw [← ht, List.take_take, Nat.min_eq_left hk]
 have hp := encP_len P
 refine ⟨?_, ?_, ?_, by omega, ?_, (side_on P).2 ((kP r gP).on P hP)⟩
 ·rw [e4 4 (by decide)]; rfl
 ·rw [e4 37 (by decide)]
  unfold headB
  rw [List.append_assoc, List.take_append, List.drop_append]
  have m : mark4.length = 4 := rfl
  rw [List.take_of_length_le (by rw [m]; decide), m, List.drop_of_length_le (by rw [m]; exact Nat.le_refl 4), List.nil_append, Nat.sub_self, List.drop_zero, List.take_append, hp, List.take_of_length_le (by rw [hp]; exact Nat.le_refl 33)]
  simp
 ·rw [ht]
  unfold headB
  have m : (mark4 ++ encP P).length = 37 := by rw [List.length_append, hp]; rfl
  rw [← m]; exact List.drop_left
 ·show (headB (encP P) l.length ++ aeS (ofK (kP r A) (kP r gP) A) (nonceB 0) l (headB (encP P) l.length)).length = _
  rw [List.length_append, hl, ha, one_chunk h2]; omega
theorem fileS_body : ((fileS A r (encP P) l).drop 41).take l.length = xrS (chK (ofK (kP r A) (kP r gP) A) (nonceB 0) 1) l ∧ ((fileS A r (encP P) l).drop 41).drop l.length = aeG (ofK (kP r A) (kP r gP) A) (nonceB 0) (headB (encP P) l.length) (xrS (chK (ofK (kP r A) (kP r gP) A) (nonceB 0) 1) l) := by
 rw [fileS_drop]
 unfold aeS
 have hx := xrS_len (chK (ofK (kP r A) (kP r gP) A) (nonceB 0) 1) l
 generalize xrS (chK (ofK (kP r A) (kP r gP) A) (nonceB 0) 1) l = x at *
 rw [← hx]
 exact ⟨List.take_left, List.drop_left⟩
end
section
variable (E : World) [hE : LaidE E] (r : Nat) (P : Ec.Af Nt.pP) (hP : (kP r gP).p = some P) (l : List UInt8) (h1 : 1 ≤ l.length) (h2 : l.length ≤ 256)
include hP h1 h2
/-- By the key of its point. -/
theorem open_same (k : W4) (hk : k.ok) (hq : k.n < Nt.pQ) (h0 : k.n ≠ 0) : Does Tryz.prog E 9 [k.v, str (fileS (kP k.n gP) r (encP P) l)] [] fun v L => v = .tuple #[str l, .int .i64 0] ∧ L = [] := by
 have hf := fileS_form (kP k.n gP) r P l hP h1 h2
 obtain ⟨b1, b2⟩ := fileS_body (kP k.n gP) r P l
 have ht := fileS_take (kP k.n gP) r P l
 have hkey : ofK (kP r (kP k.n gP)) (kP r gP) (kP k.n gP) = ofK (kP k.n (kP r gP)) (kP r gP) (kP k.n gP) := by
  rw [show kP r (kP k.n gP) = kP k.n (kP r gP) from Ec.E.mul_comm _ _ _]
 refine (open_ok E k hk hq h0 (kP r gP) P hP _ l.length hf h1 h2 _ hkey).mono fun v L ⟨hL, hv⟩ => ⟨?_, hL⟩
 rw [hv, ht, b1, b2, if_pos rfl, xrS_xrS]
/-- By any key. -/
theorem open_any (A : Pt) (k : W4) (hk : k.ok) (hq : k.n < Nt.pQ) (h0 : k.n ≠ 0) : Does Tryz.prog E 9 [k.v, str (fileS A r (encP P) l)] [] fun v L => ∃ x : List UInt8, x.length = l.length ∧ (v = .tuple #[str x, .int .i64 0] ∨ v = .tuple #[str [], .int .i64 4]) ∧ L = [] := by
 have hf := fileS_form A r P l hP h1 h2
 refine (open_ok E k hk hq h0 (kP r gP) P hP _ l.length hf h1 h2 _ rfl).mono fun v L ⟨hL, hv⟩ => ?_
 refine ⟨xrS (chK (ofK (kP k.n (kP r gP)) (kP r gP) (kP k.n gP)) (nonceB 0) 1) (((fileS A r (encP P) l).drop 41).take l.length), ?_, ?_, hL⟩
 ·rw [xrS_len, List.length_take]
  have := hf.len
  rw [one_chunk h2] at this
  rw [List.length_drop]; omega
 ·rw [hv]
  split
  ·exact .inl rfl
  ·exact .inr rfl
end
end Go.Proofs
