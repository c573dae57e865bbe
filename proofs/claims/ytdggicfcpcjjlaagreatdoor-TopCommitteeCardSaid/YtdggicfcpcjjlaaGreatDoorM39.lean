/- Part 39 of the texts below the row: Pol3, Pol4, Pol5. -/
import Derived.Test.YtdggicfcpcjjlaaGreatDoorM1
import Derived.Test.YtdggicfcpcjjlaaGreatDoorM11
import Derived.Test.YtdggicfcpcjjlaaGreatDoorM13
import Derived.Test.YtdggicfcpcjjlaaGreatDoorM34
import Derived.Test.YtdggicfcpcjjlaaGreatDoorM38
/- Poly1305: a block, a new state. -/
set_option autoImplicit false
namespace Go.Proofs
open Go.SL
def Ps.b1 (s : Ps) (m : List UInt8) : UInt64 := cyD s.h0 (pwd m) 0
def Ps.b2 (s : Ps) (m : List UInt8) : UInt64 := cyD s.h1 (pwd (m.drop 8)) (s.b1 m)
theorem Ps.b1_le (s : Ps) (m : List UInt8) : (s.b1 m).toNat ≤ 1 := cyD_le (by decide)
def Ps.add (s : Ps) (m : List UInt8) : Ps := ⟨s.h0 + pwd m + 0, s.h1 + pwd (m.drop 8) + s.b1 m, s.h2 + ((m.getD 16 0).toUInt64 + s.b2 m), s.r0, s.r1, s.p0, s.p1⟩
def Ps.blk (s : Ps) (m : List UInt8) : Ps := (s.add m).times
def pNew (key : List UInt8) : Ps := ⟨0, 0, 0, pwd (clamp (key.take 16)), pwd ((clamp (key.take 16)).drop 8), pwd (key.drop 16), pwd ((key.drop 16).drop 8)⟩
attribute [local irreducible] J JL QOp JOp seqQ blockQ loopQ retQ slc cel hex star pur stars Does RV Ent pAt scopeQ
theorem pblock_ok (E : World) (p : Nat) (s : Ps) (X : HProp) (S : SV) (m : List UInt8) (hX : ∀ (G : List HProp) w, Sat E w (X :: G) → Rd tB w S m) (hl : m.length = 17) : Does Tryz.prog E 202 [.pointer (some ⟨p, 0, none⟩), S.v] [X, cel p s.l 288] fun v L => v = .tuple #[] ∧ L = [X, cel p (s.blk m).l 288] := by
 refine Does.of Tryz.func202 rfl Tryz.ntmps202 rfl rfl fun F => ?_
 refine J.norm ?_
 have k1 := s.b1_le m
 have w0 := pword_ok E X S m hX (by omega)
 have w1 := pword_ok E X (S.sub tB.sz 8 m.length) ((m.take m.length).drop 8) (fun G w hs => (hX G w hs).sub 8 _ (by omega) (Nat.le_refl _)) (by rw [List.take_length, List.length_drop]; omega)
 rw [List.take_length] at w1
 have e16 := gd8 m 16 (by omega)
 have eb : s.blk m = (s.add m).times := rfl
 have ea : s.add m = ⟨s.h0 + pwd m + 0, s.h1 + pwd (m.drop 8) + s.b1 m, s.h2 + ((m.getD 16 0).toUInt64 + s.b2 m), s.r0, s.r1, s.p0, s.p1⟩ := rfl
 rw [← e16] at ea
 refine Sr ?_
 refine Xn ?_
 refine J_join (fun _ : Unit => True) (fun _ => [(0, .pointer (some ⟨p, 0, none⟩)), (1, S.v), (4, w64 (s.b1 m))]) (fun _ => [X, cel p [w64 (s.h0 + pwd m + 0), w64 s.h1, w64 s.h2, w64 s.r0, w64 s.r1, w64 s.p0, w64 s.p1] 288, F]) ?_ ?_
 ·skip
  refine DH [1] [0,1,2,3,4,5,8,9,11,12] (.quiet 0 (.quiet 1 (.quiet 2 (.quiet 3 (.quiet 4 (.quiet 5 (.loud 6 (.loud 7 (.quiet 8 (.quiet 9 (.quiet 11 (.quiet 12 (.both 10 (.loud 13 (.loud 14 .done)) 13 (.loud 10 (.loud 14 .done))))))))))))))) Tryz.mixed ?_
  refine XcE ?_
  refine XcE ?_
  refine Xd2 ?_
  refine Sq (Ent.re [1] rfl) rfl (Q_ld 0 rfl rfl rfl rfl) ?_
  refine XcE ?_
  refine S_o rfl rfl rfl rfl (O_call [0] [1,2] w0 rfl rfl ?_)
  (rintro _ _ ⟨rfl, rfl⟩; refine ⟨_, fun _ => ⟨Ent.reN [1] rfl, Ent.refl _⟩, ?_⟩)
  refine Xa ?_
  refine S_o rfl rfl rfl rfl (O_addD s.h0 (pwd m) 0 addFn (by decide) rfl rfl rfl ⟨_, fun _ => ⟨Ent.reN [1] rfl, Ent.refl _⟩, ?_⟩)
  refine Xa ?_
  refine XcE ?_
  refine Sq (Ent.re [1] rfl) rfl (Q_ext20 rfl) ?_
  refine Xd2 ?_
  refine S_both ?_ ?_
  ·refine S_o rfl rfl rfl rfl (QOp.jop (Q_ext21 rfl) ⟨_, fun _ => ⟨Ent.reN [1] rfl, Ent.refl _⟩, ?_⟩)
   refine Xcp ?_
   exact XdY
  ·refine Xcp ?_
   refine S_o rfl rfl rfl rfl (QOp.jop (Q_ext21 rfl) ⟨_, fun _ => ⟨Ent.reN [] rfl, Ent.refl _⟩, ?_⟩)
   exact XdY
 rintro _ _
 refine seqQ_normal ?_
 refine J_seq ?_
 refine J_join (fun _ : Unit => True) (fun _ => [(0, .pointer (some ⟨p, 0, none⟩)), (1, S.v), (4, w64 (s.b2 m))]) (fun _ => [X, cel p [w64 (s.h0 + pwd m + 0), w64 (s.h1 + pwd (m.drop 8) + s.b1 m), w64 s.h2, w64 s.r0, w64 s.r1, w64 s.p0, w64 s.p1] 288, F]) ?_ ?_
 ·skip
  refine DH [0,1] [0,1,2,3,4,5,6,8,10,11,13,14] (.quiet 0 (.quiet 1 (.quiet 2 (.quiet 3 (.quiet 4 (.quiet 5 (.quiet 6 (.quiet 8 (.loud 7 (.loud 9 (.quiet 10 (.quiet 11 (.quiet 13 (.quiet 14 (.both 12 (.loud 15 (.loud 16 .done)) 15 (.loud 12 (.loud 16 .done))))))))))))))))) Tryz.mixed ?_
  refine Xb7 ?_
  refine Xd7 ?_
  refine XaC ?_
  refine Sq (Ent.re [0,1] rfl) rfl (Q_slL 8 (fun w h => hX _ w h) rfl rfl rfl (by omega) rfl) ?_
  refine XaC ?_
  refine S_o rfl rfl rfl rfl (O_call [0] [1,2] w1 rfl rfl ?_)
  (rintro _ _ ⟨rfl, rfl⟩; refine ⟨_, fun _ => ⟨Ent.reN [0,1] rfl, Ent.refl _⟩, ?_⟩)
  refine Xa ?_
  refine S_o rfl rfl rfl rfl (O_addD s.h1 (pwd (m.drop 8)) (s.b1 m) addFn k1 rfl rfl rfl ⟨_, fun _ => ⟨Ent.reN [0,1] rfl, Ent.refl _⟩, ?_⟩)
  refine Xa ?_
  refine XaC ?_
  refine Sq (Ent.re [0,1] rfl) rfl (Q_ext20 rfl) ?_
  refine Xcn ?_
  refine S_both ?_ ?_
  ·refine S_o rfl rfl rfl rfl (QOp.jop (Q_ext21 rfl) ⟨_, fun _ => ⟨Ent.reN [0,1] rfl, Ent.refl _⟩, ?_⟩)
   refine Xcp ?_
   exact XdY
  ·refine Xcp ?_
   refine S_o rfl rfl rfl rfl (QOp.jop (Q_ext21 rfl) ⟨_, fun _ => ⟨Ent.reN [] rfl, Ent.refl _⟩, ?_⟩)
   exact XdY
 rintro _ _
 refine seqQ_normal ?_
 refine J_seq ?_
 refine DH [0,1] [0,1,2,3,4,5,6,7,8,9,10,11,12] (.quiet 0 (.quiet 1 (.quiet 2 (.quiet 3 (.quiet 4 (.quiet 5 (.quiet 6 (.quiet 7 (.quiet 8 (.quiet 9 (.quiet 10 (.quiet 11 (.quiet 12 (.loud 13 .done)))))))))))))) Tryz.mixed ?_
 refine XaC ?_
 refine Xd7 ?_
 refine XaC ?_
 refine Sq (Ent.re [0,1] rfl) rfl (Q_ix (τ := tB) 16 (fun w h => hX _ w h) rfl rfl rfl (by omega) rfl) ?_
 refine Sq (Ent.re [0,1] rfl) rfl (Q_ldE (τ := tB) (v := w8 m[16]) 16 0 (fun w h => hX _ w h) rfl rfl rfl (by omega) (by decide) rfl) ?_
 refine Sq (Ent.re [0,1] rfl) rfl (Q_cvt8D rfl) ?_
 refine XaC ?_
 refine Sq (Ent.re [0,1] rfl) rfl (Q_addD rfl rfl) ?_
 refine Sq (Ent.re [0,1] rfl) rfl (Q_addD rfl rfl) ?_
 refine Xcn ?_
 refine Xcp ?_
 refine Xu ?_
 have ht := ptimes_ok E p (s.add m)
 rw [← eb, ea] at ht
 refine Xe ?_
 refine L_o rfl rfl rfl (O_call [1] [0,2] ht rfl rfl ?_)
 rintro _ _ ⟨rfl, rfl⟩
 refine X6 ?_
 exact retQ_normal [] [_, _] .nil ⟨rfl, rfl⟩ (Ent.re [1,0,2] rfl)
instance : Places Tryz.prog 286 [(0, 1), (1, 1)] [.int .u64 0, .int .u64 0] := Places.arrN (k := .u64) rfl rfl rfl
theorem pnew_ok (E : World) (key : List UInt8) (hk : key.length = 32) : Does Tryz.prog E 183 [str key] [] fun v L => ∃ p, v = .tuple #[.pointer (some ⟨p, 0, none⟩), .int .i64 0] ∧ L = [cel p (pNew key).l 288] := by
 refine Does.of Tryz.func183 rfl Tryz.ntmps183 rfl rfl fun F => ?_
 refine J.norm ?_
 have hc := clamp_ok E (key.take 16) (by simp; omega)
 have hcl := clamp_len (key.take 16)
 rw [List.length_take] at hcl
 unfold pNew
 generalize clamp (key.take 16) = c at *
 have hd : (key.drop 16).length = 16 := by rw [List.length_drop]; omega
 refine Sr ?_
 refine Xbm ?_
 refine XN ?_
 refine Xci ?_
 refine Xag ?_
 refine Lq (Q_ssH 16 rfl rfl rfl (by omega)) ?_
 refine Xcy ?_
 refine XK ?_
 refine XaK ?_
 refine J_join (fun _ : SV × SV => True) (fun i => [(3, .int .i64 0), (6, i.1.v), (7, i.2.v)]) (fun i => [slc tB true i.1 c, slc tB true i.2 (key.drop 16), F]) ?_ ?_
 ·skip
  refine DH [] [0,2,3,5,6] (.quiet 0 (.quiet 2 (.quiet 3 (.both 1 (.quiet 5 (.loud 4 (.quiet 6 .done))) 4 (.loud 1 (.quiet 5 (.quiet 6 .done))))))) Tryz.mixed ?_
  refine Xb8 ?_
  refine Sq (Ent.re [] rfl) rfl (Q_ssL 16 rfl rfl rfl (by omega)) ?_
  refine S_both ?_ ?_
  ·refine S_o rfl rfl rfl rfl (O_s2b tB_enc rfl rfl (by omega) (fun S1 => ⟨_, fun _ => ⟨Ent.reN [] rfl, Ent.refl _⟩, ?_⟩))
   refine Xa ?_
   refine Xck ?_
   refine S_o rfl rfl rfl rfl (O_s2b tB_enc rfl rfl (by rw [hd]; decide) (fun S2 => ⟨_, fun _ => ⟨Ent.reN [] rfl, Ent.refl _⟩, ?_⟩))
   refine Xa ?_
   refine Xck ?_
   refine S_nil ?_
   exact joinQ_normal (S1, S2) trivial ⟨rfl, rfl, rfl, trivial⟩ (Ent.re [1,0,2] rfl)
  ·refine S_o rfl rfl rfl rfl (O_s2b tB_enc rfl rfl (by rw [hd]; decide) (fun S2 => ⟨_, fun _ => ⟨Ent.reN [] rfl, Ent.refl _⟩, ?_⟩))
   refine Xa ?_
   refine S_o rfl rfl rfl rfl (O_s2b tB_enc rfl rfl (by omega) (fun S1 => ⟨_, fun _ => ⟨Ent.reN [] rfl, Ent.refl _⟩, ?_⟩))
   refine Xa ?_
   refine Xck ?_
   refine Xck ?_
   refine S_nil ?_
   exact joinQ_normal (S1, S2) trivial ⟨rfl, rfl, rfl, trivial⟩ (Ent.refl _)
 rintro ⟨S1, S2⟩ _
 have w1 := pword_ok E (slc tB true S1 c) S1 c (fun G w hs => hs.rd 0 rfl) (by omega)
 have w2 := pword_ok E (slc tB true S1 c) (S1.sub tB.sz 8 c.length) ((c.take c.length).drop 8) (fun G w hs => (hs.rd 0 rfl).sub 8 _ (by omega) (Nat.le_refl _)) (by rw [List.take_length, List.length_drop]; omega)
 generalize hdd : key.drop 16 = d at *
 have w3 := pword_ok E (slc tB true S2 d) S2 d (fun G w hs => hs.rd 0 rfl) (by omega)
 have w4 := pword_ok E (slc tB true S2 d) (S2.sub tB.sz 8 d.length) ((d.take d.length).drop 8) (fun G w hs => (hs.rd 0 rfl).sub 8 _ (by omega) (Nat.le_refl _)) (by rw [List.take_length, List.length_drop]; omega)
 rw [List.take_length] at w2 w4
 refine seqQ_normal ?_
 refine J_seq ?_
 refine DH [0,1] [0,2,3,5,6,8,9,11,12,14,15] (.quiet 0 (.quiet 2 (.quiet 3 (.quiet 6 (.quiet 8 (.quiet 9 (.loud 1 (.loud 4 (.quiet 5 (.loud 7 (.loud 10 (.quiet 11 (.quiet 12 (.loud 13 (.quiet 14 (.quiet 15 .done)))))))))))))))) Tryz.mixed ?_
 refine Xb7 ?_
 refine Sq (Ent.re [0,1] rfl) rfl (Q_slL 8 (fun w h => h.rd 0 rfl) rfl rfl rfl (by omega) rfl) ?_
 refine Xb7 ?_
 refine Sq (Ent.re [0,1] rfl) rfl (Q_slL 8 (fun w h => h.rd 1 rfl) rfl rfl rfl (by omega) rfl) ?_
 refine S_o rfl rfl rfl rfl (O_call [0] [1,2] w1 rfl rfl ?_)
 (rintro _ _ ⟨rfl, rfl⟩; refine ⟨_, fun _ => ⟨Ent.reN [0,1] rfl, Ent.refl _⟩, ?_⟩)
 refine Xa ?_
 refine S_o rfl rfl rfl rfl (O_call [0] [1,2] w2 rfl rfl ?_)
 (rintro _ _ ⟨rfl, rfl⟩; refine ⟨_, fun _ => ⟨Ent.reN [0,1] rfl, Ent.refl _⟩, ?_⟩)
 refine Xa ?_
 refine Sq (Ent.re [0,1] rfl) rfl (Q_build rfl) ?_
 refine S_o rfl rfl rfl rfl (O_call [1] [0,2] w3 rfl rfl ?_)
 (rintro _ _ ⟨rfl, rfl⟩; refine ⟨_, fun _ => ⟨Ent.reN [1,0] rfl, Ent.refl _⟩, ?_⟩)
 refine Xa ?_
 refine S_o rfl rfl rfl rfl (O_call [0] [1,2] w4 rfl rfl ?_)
 (rintro _ _ ⟨rfl, rfl⟩; refine ⟨_, fun _ => ⟨Ent.reN [1,0] rfl, Ent.refl _⟩, ?_⟩)
 refine Xa ?_
 refine Sq (Ent.re [1,0] rfl) rfl (Q_build rfl) ?_
 refine Sq (Ent.re [1,0] rfl) rfl (Q_build rfl) ?_
 refine S_o rfl rfl rfl rfl (O_box rfl fun b35 => ⟨_, fun _ => ⟨Ent.reN [2,1] rfl, Ent.refl _⟩, ?_⟩)
 refine Xa ?_
 refine Sq (Ent.re [2,1] rfl) rfl (Q_assign rfl) ?_
 refine Sq (Ent.re [2,1] rfl) rfl (Q_assign rfl) ?_
 refine Xu ?_
 refine J_ret ?_
 exact retQ_ret [_, _] [_] (.cons (RV_tmp rfl) (.cons (RV_tmp rfl) .nil)) ⟨b35, rfl, rfl⟩ (Ent.re [0,3] rfl)
end Go.Proofs
/- Poly1305: a text written, the tag. -/
set_option autoImplicit false
namespace Go.Proofs
open Go.SL
def ch17 (l : List UInt8) : List UInt8 := l.take 16 ++ 1 :: List.replicate (16 - min l.length 16) 0
theorem ch17_len (l : List UInt8) : (ch17 l).length = 17 := by unfold ch17; simp; omega
theorem ch17_copy (l : List UInt8) : (clB (List.replicate 17 0)).take 0 ++ (l.take (min l.length 16)).map (fun b : UInt8 => Value.int .u8 (b.toNat : Int)) ++ (clB (List.replicate 17 0)).drop (0 + min l.length 16) = clB (l.take 16 ++ List.replicate (17 - min l.length 16) 0) := by
 have e : l.take (min l.length 16) = l.take 16 := by
  rcases Nat.le_total l.length 16 with h | h
  ·rw [Nat.min_eq_left h, List.take_length, List.take_of_length_le h]
  ·rw [Nat.min_eq_right h]
 unfold clB
 rw [List.map_append, List.take_zero, List.nil_append, Nat.zero_add, ← List.map_drop, List.drop_replicate, e]
theorem ch17_set (l : List UInt8) : (clB (l.take 16 ++ List.replicate (17 - min l.length 16) 0)).set (min l.length 16) (.int .u8 1) = clB (ch17 l) := by
 have e : (Value.int .u8 1) = .int .u8 (((1 : UInt8).toNat : Nat) : Int) := rfl
 rw [e, clB_set]
 unfold ch17
 rw [List.set_append_right _ _ (by rw [List.length_take]; omega), List.length_take, Nat.min_comm 16, Nat.sub_self, show 17 - min l.length 16 = (16 - min l.length 16) + 1 by omega, List.replicate_succ, List.set_cons_zero]
theorem drop16 (l : List UInt8) (k : Nat) : (l.drop (16 * k)).drop (min (l.drop (16 * k)).length 16) = l.drop (16 * (k + 1)) := by
 rcases Nat.le_total (l.drop (16 * k)).length 16 with h | h
 ·rw [Nat.min_eq_left h, List.drop_length]
  rw [List.length_drop] at h
  exact (List.drop_of_length_le (by omega)).symm
 ·rw [Nat.min_eq_right h, List.drop_drop]; rfl
def psK (s : Ps) (l : List UInt8) : Nat → Ps
 | 0 => s
 | k + 1 => (psK s l k).blk (ch17 (l.drop (16 * k)))
def psW (s : Ps) (l : List UInt8) : Ps := psK s l ((l.length + 15) / 16)
attribute [local irreducible] J JL QOp JOp seqQ blockQ loopQ retQ slc cel hex star pur stars Does RV Ent pAt scopeQ
theorem pwrite_ok (E : World) (p : Nat) (s : Ps) (l : List UInt8) : Does Tryz.prog E 184 [.pointer (some ⟨p, 0, none⟩), str l] [cel p s.l 288] fun v L => v = .tuple #[] ∧ L = [cel p (psW s l).l 288] := by
 refine Does.of Tryz.func184 rfl Tryz.ntmps184 rfl rfl fun F => ?_
 refine J.norm ?_
 unfold psW
 refine Sr ?_
 refine L_o rfl rfl rfl (O_allocL (clB (List.replicate 17 0)) (by kernel_rfl) (fun b4 => ?_))
 refine Xr ?_
 refine J_block ?_
 refine J_loop (fun i : Nat × List UInt8 => i.1 ≤ (l.length + 15) / 16 ∧ i.2.length = 17) (fun i => [(0, .pointer (some ⟨p, 0, none⟩)), (1, str (l.drop (16 * i.1))), (4, .pointer (some ⟨b4, 0, none⟩))]) (fun i => [cel b4 (clB i.2) 289, cel p (psK s l i.1).l 288, F]) (fun i => (l.length + 15) / 16 - i.1) (0, List.replicate 17 0) ⟨Nat.zero_le _, rfl⟩ ⟨rfl, rfl, rfl, trivial⟩ (Ent.refl _) ?_
 rintro ⟨k, B⟩ ⟨hk, hB⟩
 simp only at hk hB
 have hd := drop16 l k
 have hdl : (l.drop (16 * k)).length = l.length - 16 * k := List.length_drop
 by_cases h : 0 < (l.drop (16 * k)).length
 ·have eS : psK s l (k + 1) = (psK s l k).blk (ch17 (l.drop (16 * k))) := rfl
  have hk1 : k + 1 ≤ (l.length + 15) / 16 := by omega
  generalize hs1 : psK s l (k + 1) = s1 at *
  generalize psK s l k = s0 at *
  generalize l.drop (16 * k) = m at *
  have hc := ch17_copy m
  have hst := ch17_set m
  have hcl := ch17_len m
  have hb := pblock_ok E p s0 (cel b4 (clB (ch17 m)) 289) ⟨some ⟨b4, 0, none⟩, 17, 17⟩ (ch17 m) (fun G w hs => by have := hs.rdC (τ := tB) (m := ch17 m) (c := 17) (o := 0) 0 [] rfl (by rw [clB_flat, List.append_nil]; rfl) (by omega); rw [hcl] at this; exact this) hcl
  generalize ch17 m = cc at *
  refine Xw ?_
  refine XN ?_
  refine Lq ((Q_gtr rfl rfl).as (v' := .bool true) (congrArg Value.bool (decide_eq_true ((by show (0 : Int) < (m.length : Nat); omega))))) ?_
  refine Ln ?_
  refine J_condT rfl ?_
  refine XS ?_
  refine J_block ?_
  refine Sr ?_
  refine Lq (Q_slA 0 17 0 rfl rfl rfl (by decide) (by decide) rfl) ?_
  refine L_s rfl rfl (O_clearC 0 16 (cs' := clB (List.replicate 17 0)) rfl rfl rfl (by kernel_rfl) (by rw [clB_len, clB_len, hB]; rfl) (by intro v hv; obtain ⟨x, _, rfl⟩ := List.mem_map.1 hv; rfl) ?_)
  refine Xr ?_
  refine Sr ?_
  refine Lq (Q_slA 0 16 0 rfl rfl ⟨_, rfl⟩ (by decide) (by decide) rfl) ?_
  refine Xd ?_
  refine L_o rfl rfl rfl (O_copyS (q := min m.length 16) (cs' := clB (m.take 16 ++ List.replicate (17 - min m.length 16) 0)) 0 rfl rfl rfl rfl (by rw [clB_len, List.length_replicate]; omega) hc ?_)
  refine Xc ?_
  refine Xx ?_
  refine Lq (Q_ia (o' := min m.length 16) (min m.length 16) rfl rfl rfl (by omega) (by omega)) ?_
  refine L_s rfl rfl (O_stS 0 rfl rfl rfl rfl rfl (by rw [clB_len, List.length_append, List.length_take, List.length_replicate]; omega) ?_)
  refine XQ ?_
  rw [hst]
  refine Xe ?_
  refine Lq (Q_slA 0 17 0 rfl rfl rfl (by decide) (by decide) rfl) ?_
  refine L_o rfl rfl rfl (O_call [0,1] [2] hb rfl rfl ?_)
  rintro _ _ ⟨rfl, rfl⟩
  refine Xr ?_
  refine Xl ?_
  refine Lq (Q_ssL (min m.length 16) rfl rfl rfl (by omega)) ?_
  refine Xj ?_
  refine blockQ_normal ?_
  refine loopQ_normal (k + 1, cc) ⟨hk1, hcl⟩ (by show _ - (k + 1) < _ - k; omega) ?_ ?_
  ·simp only
   rw [← hd]
   exact ⟨rfl, rfl, rfl, trivial⟩
  ·simp only
   rw [hs1, eS]
   exact Ent.refl _
 ·have hk2 : (l.length + 15) / 16 = k := by omega
  rw [hk2]
  refine Xw ?_
  refine XN ?_
  refine Lq ((Q_gtr rfl rfl).as (v' := .bool false) (congrArg Value.bool (decide_eq_false ((by show ¬ (0 : Int) < ((l.drop (16 * k)).length : Nat); omega))))) ?_
  refine X2 ?_
  refine Xa8 ?_
  refine Xbr ?_
  exact retQ_normal [] [_] .nil ⟨rfl, rfl⟩ (Ent.re [1,2] rfl)
end Go.Proofs
/- Poly1305: the tag. -/
set_option autoImplicit false
namespace Go.Proofs
open Go.SL
def by8 (x : UInt64) : Nat → List UInt8
 | 0 => []
 | k + 1 => by8 x k ++ [(x >>> UInt64.ofNat (8 * k)).toUInt8]
theorem by8_len (x : UInt64) : ∀ k, (by8 x k).length = k
 | 0 => rfl
 | k + 1 => by rw [by8, List.length_append, by8_len x k]; rfl
def byI (x y : UInt64) (k : Nat) : List UInt8 := (by8 x k ++ List.replicate (8 - k) 0) ++ (by8 y k ++ List.replicate (8 - k) 0)
theorem byI_len (x y : UInt64) {k : Nat} (h : k ≤ 8) : (byI x y k).length = 16 := by unfold byI; simp [by8_len]; omega
theorem by8_set (x : UInt64) {k : Nat} (h : k < 8) : (by8 x k ++ List.replicate (8 - k) 0).set k (x >>> UInt64.ofNat (8 * k)).toUInt8 = by8 x (k + 1) ++ List.replicate (8 - (k + 1)) 0 := by
 rw [List.set_append_right _ _ (by rw [by8_len]; omega), by8_len, Nat.sub_self, show 8 - k = (8 - (k + 1)) + 1 by omega, List.replicate_succ, List.set_cons_zero, by8, List.append_assoc]
 rfl
theorem byI_set (x y : UInt64) {k : Nat} (h : k < 8) : ((clB (byI x y k)).set k (w8 (x >>> UInt64.ofNat (8 * k)).toUInt8)).set (8 + k) (w8 (y >>> UInt64.ofNat (8 * k)).toUInt8) = clB (byI x y (k + 1)) := by
 have e1 := by8_set x h
 have e2 := by8_set y h
 have l1 : (by8 x k ++ List.replicate (8 - k) (0 : UInt8)).length = 8 := by rw [List.length_append, by8_len, List.length_replicate]; omega
 have l2 : (by8 x (k + 1) ++ List.replicate (8 - (k + 1)) (0 : UInt8)).length = 8 := by rw [List.length_append, by8_len, List.length_replicate]; omega
 rw [clB_set, clB_set]
 unfold byI
 rw [List.set_append_left _ _ (by omega), e1, List.set_append_right _ _ (by omega), l2, show 8 + k - 8 = k by omega, e2]
def Ps.b1' (s : Ps) : UInt64 := boD s.h0 18446744073709551611 0
def Ps.b2' (s : Ps) : UInt64 := boD s.h1 18446744073709551615 s.b1'
def Ps.b3' (s : Ps) : UInt64 := boD s.h2 3 s.b2'
def Ps.fin (s : Ps) : UInt64 × UInt64 := if ((s.b3').toNat : Int) = 0 then (s.h0 - 18446744073709551611 - 0, s.h1 - 18446744073709551615 - s.b1') else (s.h0, s.h1)
def Ps.f3 (s : Ps) : UInt64 := cyD s.fin.1 s.p0 0
def Ps.tag (s : Ps) : List UInt8 := byI (s.fin.1 + s.p0 + 0) (s.fin.2 + s.p1 + s.f3) 8
theorem Ps.tag_len (s : Ps) : s.tag.length = 16 := byI_len _ _ (Nat.le_refl _)
attribute [local irreducible] J JL QOp JOp seqQ blockQ loopQ retQ slc cel hex star pur stars Does RV Ent pAt scopeQ
theorem psumT_ok (E : World) (p : Nat) (s : Ps) : Does Tryz.prog E 185 [.pointer (some ⟨p, 0, none⟩)] [cel p s.l 288] fun v L => v = str s.tag ∧ L = [cel p s.l 288] := by
 refine Does.of Tryz.func185 rfl Tryz.ntmps185 rfl rfl fun F => ?_
 refine J.norm ?_
 have k1 : s.b1'.toNat ≤ 1 := boD_le _ _ _
 have k2 : s.b2'.toNat ≤ 1 := boD_le _ _ _
 have k3 : s.f3.toNat ≤ 1 := cyD_le (by decide)
 refine Sr ?_
 refine Xn ?_
 refine DL [0,1,2,3,4,5,6,7,8,9,10,11,12,13,14] (.quiet 0 (.quiet 1 (.quiet 2 (.quiet 3 (.quiet 4 (.quiet 5 (.quiet 6 (.quiet 7 (.quiet 8 (.quiet 9 (.quiet 10 (.quiet 11 (.quiet 12 (.quiet 13 (.quiet 14 .done))))))))))))))) Tryz.mixed ?_
 refine Xbt ?_
 refine Xco ?_
 refine Xbt ?_
 refine Xco ?_
 refine Xbt ?_
 refine Xco ?_
 refine Xdm ?_
 refine Sq (Ent.refl _) rfl (Q_assign rfl) ?_
 refine Xu ?_
 refine Xg ?_
 refine L_o rfl rfl rfl (O_subD s.h0 18446744073709551611 0 subFn (by decide) rfl rfl rfl ?_)
 refine XH ?_
 refine Xab ?_
 refine L_o rfl rfl rfl (O_subD s.h1 18446744073709551615 s.b1' subFn k1 rfl rfl rfl ?_)
 refine XH ?_
 refine Xs ?_
 refine Xad ?_
 refine L_o rfl rfl rfl (O_subD s.h2 3 s.b2' subFn k2 rfl rfl rfl ?_)
 refine XH ?_
 refine Xx ?_
 refine Lq (Q_eql rfl rfl) ?_
 refine Ln ?_
 refine J_join (fun _ : Unit => True) (fun _ => [(0, .pointer (some ⟨p, 0, none⟩)), (2, str []), (3, w64 s.fin.1), (4, w64 s.fin.2)]) (fun _ => [cel p s.l 288, F]) ?_ ?_
 ·refine J_condD rfl (fun h => ?_) (fun h => ?_)
  ·have e : s.fin = (s.h0 - 18446744073709551611 - 0, s.h1 - 18446744073709551615 - s.b1') := if_pos h
   refine Xl ?_
   refine XaN ?_
   refine Xj ?_
   exact joinQ_normal () trivial (by rw [e]; exact ⟨rfl, rfl, rfl, rfl, trivial⟩) (Ent.refl _)
  ·have e : s.fin = (s.h0, s.h1) := if_neg h
   refine J_skip ?_
   exact joinQ_normal () trivial (by rw [e]; exact ⟨rfl, rfl, rfl, rfl, trivial⟩) (Ent.refl _)
 rintro _ _
 have et : s.tag = byI (s.fin.1 + s.p0 + 0) (s.fin.2 + s.p1 + s.f3) 8 := rfl
 have ef : s.f3 = cyD s.fin.1 s.p0 0 := rfl
 generalize s.tag = tag at *
 generalize s.f3 = c at *
 generalize s.fin.1 = x at *
 generalize s.fin.2 = y at *
 subst ef
 refine seqQ_normal ?_
 refine Xv ?_
 refine XL ?_
 refine Lq (Q_ia 0 rfl rfl rfl (by decide) rfl) ?_
 refine XbM ?_
 refine L_o rfl rfl rfl (O_addD x s.p0 0 addFn (by decide) rfl rfl rfl ?_)
 refine XH ?_
 refine Xab ?_
 refine XL ?_
 refine Lq (Q_ia 1 rfl rfl rfl (by decide) rfl) ?_
 refine XbM ?_
 refine Xd ?_
 refine L_o rfl rfl rfl (O_addD y s.p1 (cyD x s.p0 0) addFn k3 rfl rfl rfl ?_)
 refine XH ?_
 refine Xn ?_
 generalize x + s.p0 + 0 = u at *
 generalize y + s.p1 + cyD x s.p0 0 = v at *
 subst et
 refine Xh ?_
 refine L_o rfl rfl rfl (O_allocL (clB (List.replicate 16 0)) (by kernel_rfl) (fun b10 => ?_))
 refine XQ ?_
 refine Xg ?_
 refine XP ?_
 refine J_loop (fun i : Nat => i ≤ 8) (fun i => [(2, str []), (3, w64 u), (4, w64 v), (10, .pointer (some ⟨b10, 0, none⟩)), (66, .int .i64 (i : Int))]) (fun i => [cel b10 (clB (byI u v i)) 290, cel p s.l 288, F]) (fun i => 8 - i) 0 (Nat.zero_le _) ⟨rfl, rfl, rfl, rfl, rfl, trivial⟩ (Ent.refl _) ?_
 intro i hi
 have hbl := byI_len u v hi
 by_cases h : i < 8
 ·have hst := byI_set u v h
  have hl : (clB (byI u v i)).length = 16 := by rw [clB_len, hbl]
  refine XR ?_
  refine Xi ?_
  refine DH [] [0,1,2,3,4,5,6,7,8,9,10,11,12,13,15] (.quiet 0 (.quiet 1 (.quiet 2 (.quiet 3 (.quiet 4 (.quiet 5 (.quiet 6 (.quiet 7 (.quiet 8 (.quiet 9 (.quiet 10 (.quiet 11 (.quiet 12 (.quiet 13 (.loud 14 (.quiet 15 (.loud 16 .done))))))))))))))))) Tryz.mixed ?_
  refine Xb8 ?_
  refine Sq (Ent.re [] rfl) rfl ((Q_add rfl rfl (IntWalk.i64_in _ (by omega))).as (v' := .int .i64 ((8 + i : Nat) : Int)) rfl) ?_
  refine Xb8 ?_
  refine Xfq ?_
  refine Sq (Ent.re [] rfl) rfl (Q_cvtD8 rfl) ?_
  refine Xb8 ?_
  refine Xfq ?_
  refine Sq (Ent.re [] rfl) rfl (Q_cvtD8 rfl) ?_
  refine Sq (Ent.re [] rfl) rfl (Q_ia (o' := i) i rfl rfl rfl (by omega) (by omega)) ?_
  refine S_s rfl rfl rfl (O_stS 0 rfl rfl rfl rfl rfl (by rw [hl]; omega) ⟨_, fun _ => ⟨Ent.reN [] rfl, Ent.refl _⟩, ?_⟩)
  refine Xa ?_
  refine Sq (Ent.re [] rfl) rfl (Q_ia (o' := 8 + i) (8 + i) rfl rfl rfl (by omega) (by omega)) ?_
  refine S_s rfl rfl rfl (O_stS 0 rfl rfl rfl rfl rfl (by rw [List.length_set, hl]; omega) ⟨[], free_no (by kernel_rfl), ?_⟩)
  refine Xaq ?_
  refine XV ?_
  rw [hst]
  refine Xh ?_
  exact XdQ
 ·obtain rfl : i = 8 := by omega
  generalize byI u v 8 = t at *
  refine Xbk ?_
  refine Lq (Q_slA 0 16 0 rfl rfl rfl (by decide) (by decide) rfl) ?_
  refine Lq (Q_b2s (β := tB) (S := ⟨some ⟨b10, 0, none⟩, 16, 16⟩) (m := t) tB_enc (fun w hs => by have := hs.rdC (τ := tB) (m := t) (c := 16) (o := 0) 0 [] rfl (by rw [clB_flat, List.append_nil]; rfl) (by omega); rw [hbl] at this; exact this) rfl) ?_
  refine Xq ?_
  exact retQ_ret [_] [_] (.cons (RV_tmp rfl) .nil) ⟨rfl, rfl⟩ (Ent.re [1,2] rfl)
/-- The tag of a text under a key. -/
def pMac (key l : List UInt8) : List UInt8 := (psW (pNew key) l).tag
theorem pMac_len (key l : List UInt8) : (pMac key l).length = 16 := Ps.tag_len _
theorem pmac_ok (E : World) (key l : List UInt8) (hk : key.length = 32) : Does Tryz.prog E 138 [str key, str l] [] fun v L => v = .tuple #[str (pMac key l), .int .i64 0] ∧ L = [] := by
 refine Does.of Tryz.func138 rfl Tryz.ntmps138 rfl rfl fun F => ?_
 refine Xb ?_
 refine Xam ?_
 refine L_o rfl rfl rfl (O_call [] [0] (pnew_ok E key hk) rfl rfl ?_)
 rintro _ _ ⟨p, rfl, rfl⟩
 refine XH ?_
 refine Xs ?_
 refine Xw ?_
 refine XbP ?_
 refine Xy ?_
 refine Xv ?_
 refine L_o rfl rfl rfl (O_call [0] [1] (pwrite_ok E p (pNew key) l) rfl rfl ?_)
 rintro _ _ ⟨rfl, rfl⟩
 refine Xbn ?_
 refine L_o rfl rfl rfl (O_call [0] [1] (psumT_ok E p (psW (pNew key) l)) rfl rfl ?_)
 rintro _ _ ⟨rfl, rfl⟩
 refine Xc ?_
 refine Xs ?_
 exact Xc7
end Go.Proofs
