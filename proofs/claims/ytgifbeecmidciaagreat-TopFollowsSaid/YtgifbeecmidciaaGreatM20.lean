/- Part 20 of the texts below the row: LastP, Kv7, Kv8, Kv9, Kv10, Kv11, Kv12, KvP, KvQ, Kv13, Kv14, Kv15, KvI, KvJ, Kv16. -/
import Derived.Test.YtgifbeecmidciaaGreatM19
/- What the slots tell behind writes, whole or cut, and behind a byte that is another one, in plain Lean. -/
set_option autoImplicit false
namespace Go.Proofs
open Go.SL
theorem be_four (n : Nat) : be (four n) = n % 2 ^ 32 := by
 simp only [be, four, List.foldl_cons, List.foldl_nil, UInt8.toNat_ofNat']
 omega
/-- A slot with a body that is whole. -/
def whole (g : Nat) (body : List UInt8) : List UInt8 :=
 four (crc (four (g % 2 ^ 32) ++ four (body.length % 2 ^ 32) ++ body)) ++ (four (g % 2 ^ 32) ++ four (body.length % 2 ^ 32) ++ body)
theorem four_len (n : Nat) : (four n).length = 4 := rfl
/-- Are these slots telling the body, written as the n-th? -/
def Tells (a b w : List UInt8) (n : Nat) : Prop :=
 (n = 0 ∧ w = [] ∧ rightB a = false ∧ rightB b = false) ∨ (0 < n ∧ rightB a = true ∧ nw a 1 = n ∧ a.drop 12 = w ∧ (rightB b = false ∨ nw b 1 ≤ n)) ∨
 (0 < n ∧ rightB b = true ∧ nw b 1 = n ∧ b.drop 12 = w ∧ (rightB a = false ∨ nw a 1 < n))
theorem tells_nil : Tells [] [] [] 0 := .inl ⟨rfl, rfl, rfl, rfl⟩
theorem Tells.told {a b w : List UInt8} {n : Nat} (h : Tells a b w n) : (n = 0 ∧ w = [] ∧ rightB a = false ∧ rightB b = false ∧ told a b = -1) ∨
 (0 < n ∧ rightB a = true ∧ nw a 1 = n ∧ a.drop 12 = w ∧ told a b = 0) ∨ (0 < n ∧ rightB b = true ∧ nw b 1 = n ∧ b.drop 12 = w ∧ told a b = 1) := by
 rcases h with ⟨h1, h2, h3, h4⟩ | ⟨h1, h2, h3, h4, h5⟩ | ⟨h1, h2, h3, h4, h5⟩
 ·exact .inl ⟨h1, h2, h3, h4, by simp [Go.Proofs.told, h3, h4]⟩
 ·refine .inr (.inl ⟨h1, h2, h3, h4, ?_⟩)
  unfold Go.Proofs.told
  rw [if_neg, if_pos h2]
  rintro ⟨h6, h7⟩
  rcases h5 with h5 | h5
  ·rw [h5] at h6; cases h6
  ·rcases h7 with h7 | h7
   ·rw [h2] at h7; cases h7
   ·omega
 ·refine .inr (.inr ⟨h1, h2, h3, h4, ?_⟩)
  unfold Go.Proofs.told
  rw [if_pos]
  refine ⟨h2, h5.imp id fun h => by omega⟩
theorem Tells.load {a b w : List UInt8} {n : Nat} (h : Tells a b w n) : loadT a b = w ∧ loadN a b = n := by
 rcases h.told with ⟨h1, h2, _, _, h5⟩ | ⟨_, _, h3, h4, h5⟩ | ⟨_, _, h3, h4, h5⟩ <;> simp [loadT, loadN, h5, *]
def wholeN (body : List UInt8) (upto : Int) : Prop := upto < 0 ∨ (body.length : Int) ≤ upto - 12
instance (body : List UInt8) (upto : Int) : Decidable (wholeN body upto) := inferInstanceAs (Decidable (_ ∨ _))
end Go.Proofs
/- A number in four bytes; the store as one chunk. -/
set_option autoImplicit false
namespace Go.Proofs
open Go.SL Go.Proofs.Bt
abbrev kvC (p pt pl ps : Nat) (saved : Int) : HProp := cel p [.pointer (some ⟨pt, 0, none⟩), .pointer (some ⟨pl, 0, none⟩), .pointer (some ⟨ps, 0, none⟩), .int .i64 saved] 90
attribute [local irreducible] J JL QOp JOp seqQ blockQ loopQ retQ slc cel hex star pur stars Does RV Ent pAt scopeQ
attribute [local irreducible] nodeA nodeX treeA segA snapA
theorem knew_ok (E : World) (z : Int) : Does Tryz.prog E 15 [.int .i64 z] [] fun v L => ∃ p pt pl ps : Nat, v = .pointer (some ⟨p, 0, none⟩) ∧ L = [kvC p pt pl ps 0, treeA pt [], segA pl ⟨newSize z, 0, []⟩, snapA ps [] []] := by
 refine Does.of Tryz.func15 rfl Tryz.ntmps15 rfl rfl fun F => ?_
 refine J.norm ?_
 refine Sr ?_
 refine Lq (Q_assign rfl) ?_
 refine Ln ?_
 refine Sr ?_
 refine L_o rfl rfl rfl (O_call [] [0] (tnew_ok E) rfl rfl ?_)
 rintro _ _ ⟨pt, rfl, rfl⟩
 refine JL.norm ?_
 refine Lq (Q_move rfl) ?_
 refine L_o rfl rfl rfl (O_call [] [0,1] (segnew_ok E z) rfl rfl ?_)
 rintro _ _ ⟨pl, rfl, rfl⟩
 refine JL.norm ?_
 refine L_o rfl rfl rfl (O_call [] [0,1,2,3,4] (snew_ok E) rfl rfl ?_)
 rintro _ _ ⟨ps, rfl, rfl⟩
 refine JL.norm ?_
 refine Lq (Q_build rfl) ?_
 refine L_o rfl rfl rfl (O_box rfl fun b8 => ?_)
 refine Lq (Q_assign rfl) ?_
 refine Ln ?_
 refine J_ret ?_
 refine retQ_ret _ [kvC b8 pt pl ps 0, treeA pt [], segA pl ⟨newSize z, 0, []⟩, snapA ps [] []] (.cons (RV_tmp rfl) .nil) ⟨b8, pt, pl, ps, rfl, rfl⟩ ?_
 refine (Ent.re [1,2,3,0,4,5,6,7,8] rfl).trans (Ent.snap.trans ?_)
 refine (Ent.re [2,3,4,0,1,5,6] rfl).trans ((Ent.seg (g := ⟨newSize z, 0, []⟩) rfl rfl rfl).trans ?_)
 exact Ent.re [2,3,0,1,4] rfl
end Go.Proofs
/- A change done and logged. -/
set_option autoImplicit false
namespace Go.Proofs
open Go.SL Go.Proofs.Bt
attribute [local irreducible] J JL QOp JOp seqQ blockQ loopQ retQ slc cel hex star pur stars Does RV Ent pAt scopeQ
attribute [local irreducible] nodeA nodeX treeA segA snapA
theorem chPut_ok (E : World) (p pt pl ps c : Nat) (saved : Int) (g : Lg) (l : List Kv) (k v : Ky) (hkv : k.length + v.length ≤ 1000000) (hg : Good g c) (hc : c ≤ 1000000) (hl : l.length ≤ 1000000) : Does Tryz.prog E 40 [.pointer (some ⟨p, 0, none⟩), chV (.put k v)] [kvC p pt pl ps saved, treeA pt l, segA pl g] fun r L => r = .int .i64 (appL g (chB (.put k v))).2.2 ∧ L = [kvC p pt pl ps saved, treeA pt (if (appL g (chB (.put k v))).2.2 = 0 then putL l k v else l), segA pl (appL g (chB (.put k v))).1] := by
 have hb := putB_ok E k v hkv
 have ha := gappend_ok E pl c g hg (by omega) (chB (.put k v))
 refine Does.of Tryz.func40 rfl Tryz.ntmps40 rfl rfl fun F => ?_
 refine J.norm ?_
 refine Sr ?_
 refine Lq (Q_assign rfl) ?_
 refine Ln ?_
 refine J_seq ?_
 refine J_seq ?_
 refine DH [0] [0,1,2,3,4,7,8,9,10,11] (.quiet 0 (.quiet 1 (.quiet 2 (.quiet 3 (.quiet 4 (.loud 5 (.loud 6 (.quiet 7 (.quiet 8 (.quiet 9 (.quiet 10 (.quiet 11 .done)))))))))))) Tryz.mixed ?_
 refine Sq (Ent.re [0] rfl) rfl (Q_move rfl) ?_
 refine Sq (Ent.re [0] rfl) rfl (Q_nilCheck rfl) ?_
 refine Sq (Ent.re [0] rfl) rfl (Q_fa0 rfl) ?_
 refine Sq (Ent.re [0] rfl) rfl (Q_ld 0 rfl rfl rfl rfl) ?_
 refine Sq (Ent.re [0] rfl) rfl (Q_move rfl) ?_
 refine S_o rfl rfl rfl rfl (O_invoke [] [0,1,2,3] metPB rfl rfl hb rfl ?_)
 (rintro _ _ ⟨rfl, rfl⟩; refine ⟨_, fun _ => ⟨Ent.reN [0] rfl, Ent.refl _⟩, ?_⟩)
 refine JS.norm ?_
 refine S_o rfl rfl rfl rfl (O_call [2] [0,1,3] ha rfl rfl ?_)
 (rintro _ _ ⟨rfl, rfl⟩; refine ⟨_, fun _ => ⟨Ent.reN [1] rfl, Ent.refl _⟩, ?_⟩)
 refine JS.norm ?_
 refine Sq (Ent.re [1] rfl) rfl (Q_move rfl) ?_
 refine Sq (Ent.re [1] rfl) rfl (Q_extract (v := .int .i64 ((appL g (chB (.put k v))).2.1 : Int)) rfl rfl) ?_
 refine Sq (Ent.re [1] rfl) rfl (Q_extract (v := .int .i64 (appL g (chB (.put k v))).2.2) rfl rfl) ?_
 refine Sq (Ent.re [1] rfl) rfl (Q_assign rfl) ?_
 refine Sq (Ent.re [1] rfl) rfl (Q_assign rfl) ?_
 refine S_nil ?_
 refine seqQ_normal ?_
 refine J_seq ?_
 by_cases he : (appL g (chB (.put k v))).2.2 = 0
 ·skip
  refine J_region ?_
  refine Lq (Q_move rfl) ?_
  refine Lq ((Q_neq rfl rfl).as (v' := .bool false) (congrArg Value.bool (decide_eq_false (by omega)))) ?_
  refine Ln ?_
  refine J_condF rfl ?_
  refine J_skip ?_
  refine seqQ_normal ?_
  refine J_seq ?_
  refine DH [1] [0,1,2,3,4,5,6,7] (.quiet 0 (.quiet 1 (.quiet 2 (.quiet 3 (.quiet 4 (.quiet 5 (.quiet 6 (.quiet 7 (.loud 8 .done))))))))) Tryz.mixed ?_
  refine Sq (Ent.re [1] rfl) rfl (Q_move rfl) ?_
  refine Sq (Ent.re [1] rfl) rfl (Q_move rfl) ?_
  refine Sq (Ent.re [1] rfl) rfl (Q_nilCheck rfl) ?_
  refine Sq (Ent.re [1] rfl) rfl (Q_fa0 rfl) ?_
  refine Sq (Ent.re [1] rfl) rfl (Q_ld 0 rfl rfl rfl rfl) ?_
  refine Sq (Ent.re [1] rfl) rfl (Q_makeFunc (xs := [.tmp 20]) (ys := []) (vs := [chV (.put k v)]) (us := []) rfl rfl) ?_
  refine Sq (Ent.re [1] rfl) rfl (Q_nilMeth metPD rfl) ?_
  refine Sq (Ent.re [1] rfl) rfl (Q_move rfl) ?_
  refine S_o rfl rfl rfl rfl (O_invoke [2] [0,1,3] metPD rfl rfl (putD_ok E pt l k v (by omega)) rfl ?_)
  (rintro _ _ ⟨rfl, rfl⟩; refine ⟨_, fun _ => ⟨Ent.reN [2] rfl, Ent.refl _⟩, ?_⟩)
  refine JS.norm ?_
  refine S_nil ?_
  refine seqQ_normal ?_
  refine Sr ?_
  refine Lq (Q_assign rfl) ?_
  refine Ln ?_
  refine J_ret ?_
  rw [if_pos he]
  exact retQ_ret _ [kvC p pt pl ps saved, treeA pt (putL l k v), segA pl (appL g (chB (.put k v))).1] (.cons (RV_tmp rfl) .nil) ⟨by rw [he]; rfl, rfl⟩ (Ent.re [2,0,1,3] rfl)
 ·skip
  refine J_region ?_
  refine Lq (Q_move rfl) ?_
  refine Lq ((Q_neq rfl rfl).as (v' := .bool true) (congrArg Value.bool (decide_eq_true he))) ?_
  refine Ln ?_
  refine J_condT rfl ?_
  refine Sr ?_
  refine Lq (Q_move rfl) ?_
  refine Lq (Q_assign rfl) ?_
  refine Ln ?_
  refine J_ret ?_
  refine seqQ_ret ?_
  rw [if_neg he]
  exact retQ_ret _ [kvC p pt pl ps saved, treeA pt l, segA pl (appL g (chB (.put k v))).1] (.cons (RV_tmp rfl) .nil) ⟨rfl, rfl⟩ (Ent.re [1,2,0,3] rfl)
end Go.Proofs
/- A store: read, synced, its numbers; a store that is none. -/
set_option autoImplicit false
namespace Go.Proofs
open Go.SL Go.Proofs.Bt
attribute [local irreducible] J JL QOp JOp seqQ blockQ loopQ retQ slc cel hex star pur stars Does RV Ent pAt scopeQ
attribute [local irreducible] nodeA nodeX treeA segA snapA
theorem kget_ok (E : World) (p pt pl ps : Nat) (saved : Int) (l : List Kv) (k : Ky) : Does Tryz.prog E 26 [.pointer (some ⟨p, 0, none⟩), str k] [kvC p pt pl ps saved, treeA pt l] fun r L => r = .tuple #[str (Bt.getL l k), .int .i64 (if hasL l k = true then 0 else 9)] ∧ L = [kvC p pt pl ps saved, treeA pt l] := by
 refine Does.of Tryz.func26 rfl Tryz.ntmps26 rfl rfl fun F => ?_
 refine J.norm ?_
 refine Sr ?_
 refine Lq (Q_assign rfl) ?_
 refine Lq (Q_assign rfl) ?_
 refine Ln ?_
 refine J_seq ?_
 refine Sr ?_
 refine Lq (Q_move rfl) ?_
 refine Lq ((Q_pneq rfl rfl).as (v' := .bool true) rfl) ?_
 refine Ln ?_
 refine J_condT rfl ?_
 refine Sr ?_
 refine Lq (Q_move rfl) ?_
 refine Lq (Q_nilCheck rfl) ?_
 refine Lq (Q_fa0 rfl) ?_
 refine Lq (Q_ld 0 rfl rfl rfl rfl) ?_
 refine Lq (Q_move rfl) ?_
 refine L_o rfl rfl rfl (O_call [1] [0,2] (tget_ok E pt l k) rfl rfl ?_)
 rintro _ _ ⟨rfl, rfl⟩
 refine JL.norm ?_
 refine Lq (Q_move rfl) ?_
 refine Lq (Q_extract (v := str (Bt.getL l k)) rfl rfl) ?_
 refine Lq (Q_extract (v := .bool (hasL l k)) rfl rfl) ?_
 refine Lq (Q_assign rfl) ?_
 refine Lq (Q_assign rfl) ?_
 refine Ln ?_
 refine J_seq ?_
 cases hh : hasL l k with
 | true =>
  refine J_region ?_
  refine Lq (Q_move rfl) ?_
  refine Ln ?_
  refine J_condT rfl ?_
  refine Sr ?_
  refine Lq (Q_move rfl) ?_
  refine Lq (Q_assign rfl) ?_
  refine Lq (Q_assign rfl) ?_
  refine Ln ?_
  refine J_ret ?_
  refine seqQ_ret ?_
  exact retQ_ret _ [kvC p pt pl ps saved, treeA pt l] (.cons (RV_tmp rfl) (.cons (RV_tmp rfl) .nil)) ⟨rfl, rfl⟩ (Ent.re [1,0,2] rfl)
 | false =>
  rw [Bt.get_not hh]
  refine J_region ?_
  refine Lq (Q_move rfl) ?_
  refine Ln ?_
  refine J_condF rfl ?_
  refine J_skip ?_
  refine seqQ_normal ?_
  refine Sr ?_
  refine Lq (Q_assign rfl) ?_
  refine Lq (Q_assign rfl) ?_
  refine Ln ?_
  refine J_ret ?_
  exact retQ_ret _ [kvC p pt pl ps saved, treeA pt l] (.cons (RV_tmp rfl) (.cons (RV_tmp rfl) .nil)) ⟨rfl, rfl⟩ (Ent.re [1,0,2] rfl)
end Go.Proofs
/- A key put, a key deleted. -/
set_option autoImplicit false
namespace Go.Proofs
open Go.SL Go.Proofs.Bt
def keyB (k : Ky) : Bool := decide (k ≠ []) && decide (k.length ≤ 32)
theorem keyB_len {k : Ky} (h : keyB k = true) : k.length ≤ 32 := by
 simp [keyB] at h; exact h.2
attribute [local irreducible] J JL QOp JOp seqQ blockQ loopQ retQ slc cel hex star pur stars Does RV Ent pAt scopeQ
attribute [local irreducible] nodeA nodeX treeA segA snapA
theorem kput_ok (E : World) (p pt pl ps c : Nat) (saved : Int) (g : Lg) (l : List Kv) (k v : Ky) (hg : Good g c) (hc : c ≤ 1000000) (hl : l.length ≤ 1000000) (hk : keyB k = true) (hv : v.length ≤ 1024) : Does Tryz.prog E 16 [.pointer (some ⟨p, 0, none⟩), str k, str v] [kvC p pt pl ps saved, treeA pt l, segA pl g] fun r L => r = .int .i64 (appL g (chB (.put k v))).2.2 ∧ L = [kvC p pt pl ps saved, treeA pt (if (appL g (chB (.put k v))).2.2 = 0 then putL l k v else l), segA pl (appL g (chB (.put k v))).1] := by
 have hkey := key_ok E k
 rw [show (decide (k ≠ []) && decide (k.length ≤ 32)) = true from hk] at hkey
 refine Does.of Tryz.func16 rfl Tryz.ntmps16 rfl rfl fun F => ?_
 refine J.norm ?_
 refine Sr ?_
 refine Lq (Q_assign rfl) ?_
 refine Ln ?_
 refine J_seq ?_
 refine Sr ?_
 refine Lq (Q_move rfl) ?_
 refine Lq ((Q_peql rfl rfl).as (v' := .bool false) rfl) ?_
 refine Lq (Q_move rfl) ?_
 refine Lq (Q_move rfl) ?_
 refine L_o rfl rfl rfl (O_call [] [0,1,2,3] hkey rfl rfl ?_)
 rintro _ _ ⟨rfl, rfl⟩
 refine JL.norm ?_
 refine Lq ((Q_not rfl).as (v' := .bool false) rfl) ?_
 refine Lq (Q_pickF rfl rfl) ?_
 refine Lq (Q_move rfl) ?_
 refine Lq (Q_move rfl) ?_
 refine Lq (Q_slen rfl) ?_
 refine Lq ((Q_gtr rfl rfl).as (v' := .bool false) (congrArg Value.bool (decide_eq_false (by omega)))) ?_
 refine Lq (Q_pickF rfl rfl) ?_
 refine Ln ?_
 refine J_condF rfl ?_
 refine J_skip ?_
 refine seqQ_normal ?_
 refine Sr ?_
 refine Lq (Q_move rfl) ?_
 refine Lq (Q_move rfl) ?_
 refine Lq (Q_move rfl) ?_
 refine Lq (Q_build rfl) ?_
 refine Lq (Q_makeInterface rfl rfl) ?_
 refine L_o rfl rfl rfl (O_call [0,1,2] [3] (chPut_ok E p pt pl ps c saved g l k v (by have := keyB_len hk; omega) hg hc hl) rfl rfl ?_)
 rintro _ _ ⟨rfl, rfl⟩
 refine JL.norm ?_
 refine Lq (Q_assign rfl) ?_
 refine Ln ?_
 refine J_ret ?_
 exact retQ_ret _ _ (.cons (RV_tmp rfl) .nil) ⟨rfl, rfl⟩ (Ent.refl _)
end Go.Proofs
/- Synced; of how many records it is sure. -/
set_option autoImplicit false
namespace Go.Proofs
open Go.SL Go.Proofs.Bt
attribute [local irreducible] J JL QOp JOp seqQ blockQ loopQ retQ slc cel hex star pur stars Does RV Ent pAt scopeQ
attribute [local irreducible] nodeA nodeX treeA segA snapA
theorem ksync_ok (E : World) (p pt pl ps c : Nat) (saved : Int) (g : Lg) (hg : Good g c) (hc : c ≤ 1000000) : Does Tryz.prog E 19 [.pointer (some ⟨p, 0, none⟩)] [kvC p pt pl ps saved, segA pl g] fun r L => r = .tuple #[] ∧ L = [kvC p pt pl ps saved, segA pl (syncL g)] := by
 refine Does.of Tryz.func19 rfl Tryz.ntmps19 rfl rfl fun F => ?_
 refine J.norm ?_
 refine Sr ?_
 refine Lq (Q_move rfl) ?_
 refine Lq ((Q_pneq rfl rfl).as (v' := .bool true) rfl) ?_
 refine Ln ?_
 refine J_condT rfl ?_
 refine J_region ?_
 refine Lq (Q_move rfl) ?_
 refine Lq (Q_nilCheck rfl) ?_
 refine Lq (Q_fa0 rfl) ?_
 refine Lq (Q_ld 0 rfl rfl rfl rfl) ?_
 refine L_o rfl rfl rfl (O_call [1] [0,2] (gsync_ok E pl c g hg hc) rfl rfl ?_)
 rintro _ _ ⟨rfl, rfl⟩
 refine JL.norm ?_
 refine JL_nil ?_
 exact retQ_normal [] [kvC p pt pl ps saved, segA pl (syncL g)] .nil ⟨rfl, rfl⟩ (Ent.re [1,0,2] rfl)
end Go.Proofs
/- A key deleted. -/
set_option autoImplicit false
namespace Go.Proofs
open Go.SL Go.Proofs.Bt
attribute [local irreducible] J JL QOp JOp seqQ blockQ loopQ retQ slc cel hex star pur stars Does RV Ent pAt scopeQ
attribute [local irreducible] nodeA nodeX treeA segA snapA
end Go.Proofs
/- Pairs packed and unpacked, in plain Lean. -/
set_option autoImplicit false
namespace Go.Proofs
open Go.SL Go.Proofs.Bt
theorem unp_up : ∀ (l : List Kv) (p : Option Ky), Up l → (∀ q, p = some q → Abv l q) → unp p (flat (toPr l)) = some (toPr l)
 | [], _, _, _ => rfl
 | x :: l, p, hu, hp => by
  have h1 : flat (toPr (x :: l)) = x.key :: x.val :: flat (toPr l) := rfl
  have h2 : badK p x.key = false := by
   cases p with
   | none => rfl
   | some q =>
    have := hp q rfl x (by simp)
    show (!(Op.bytesLess q x.key)) = false
    rw [less_kl, this]; rfl
  have hu2 := List.pairwise_cons.1 hu
  rw [h1, unp, if_neg (by rw [h2]; simp), unp_up l (some x.key) hu2.2 (fun q hq => by cases hq; exact hu2.1)]
  rfl
theorem knextT (s r : List UInt8) (h : s.length < 2 ^ 32) : nextT (four s.length ++ s ++ r) = some (s, r) := by
 have h1 : (four s.length ++ s ++ r).drop 4 = s ++ r := rfl
 have h2 : (four s.length ++ s ++ r).take 4 = four s.length := rfl
 have h3 : be (four s.length) = s.length := by rw [be_four, Nat.mod_eq_of_lt h]
 unfold nextT
 rw [h1, h2, h3, if_neg (by simp [four_len]), if_neg (by simp)]
 simp
theorem kreadT (l : List (List UInt8)) (h : ∀ s ∈ l, s.length < 2 ^ 32) : readT (texts l) = some l := by
 induction l with
 | nil => exact readT_nil
 | cons s l ih =>
  have e : texts (s :: l) = four s.length ++ s ++ texts l := by simp [texts]
  rw [e, readT_some (by simp [four]) (knextT s _ (h s (by simp))), ih (fun t ht => h t (by simp [ht]))]
  rfl
theorem unp_pack {l : List Kv} (hu : Up l) (h : ∀ s ∈ flat (toPr l), s.length < 2 ^ 32) : unpL (texts (flat (toPr l))) = toPr l := by
 unfold unpL
 rw [unpT_some (kreadT _ h), unp_up l none hu (fun q hq => by cases hq)]
 rfl
end Go.Proofs
/- Rising pairs put one by one; a number's four bytes back. -/
set_option autoImplicit false
namespace Go.Proofs
open Go.SL Go.Proofs.Bt
end Go.Proofs
/- A state loaded. -/
set_option autoImplicit false
namespace Go.Proofs
open Go.SL Go.Proofs.Bt
theorem kor_8 (n b : Nat) (hb : b < 256) : (n * 2 ^ 8 ||| b) = n * 256 + b := by
 rw [show n * 2 ^ 8 = 2 ^ 8 * n by omega, ← Nat.two_pow_add_eq_or_of_lt (by omega : b < 2 ^ 8)]
theorem kpow_le {k : Nat} (h : k < 4) : 256 ^ k ≤ 16777216 := Nat.le_trans (Nat.pow_le_pow_right (by decide) (show k ≤ 3 by omega)) (by decide)
theorem take_put {l : List Kv} (hu : Up l) {k : Nat} (h : k < l.length) : putL (l.take k) l[k].key l[k].val = l.take (k + 1) := by
 have e : l.take (k + 1) = l.take k ++ [l[k]] := List.take_succ_eq_append_getElem h
 have hu2 : Up (l.take k ++ [l[k]]) := by rw [← e]; exact List.Pairwise.sublist (List.take_sublist ..) hu
 have h1 := up_mid (Y := []) hu2
 have := put_miss (X := l.take k) (Y := []) (k := l[k].key) h1.1 (by intro z hz; cases hz) l[k].val
 rw [List.append_nil] at this
 rw [this, e]
attribute [local irreducible] J JL QOp JOp seqQ blockQ loopQ retQ slc cel hex star pur stars Does RV Ent pAt scopeQ
attribute [local irreducible] nodeA nodeX treeA segA snapA
theorem kload0_ok (E : World) (p pt pl ps : Nat) (saved : Int) (a b : List UInt8) (ha : a.length ≤ 100000) (hb : b.length ≤ 100000) (h0 : loadN a b = 0) : Does Tryz.prog E 52 [.pointer (some ⟨p, 0, none⟩)] [kvC p pt pl ps saved, snapA ps a b] fun r L => ∃ q : Nat, r = .tuple #[.pointer (some ⟨q, 0, none⟩), .int .i64 0] ∧ L = [kvC p pt pl ps saved, snapA ps a b, treeA q []] := by
 have hl := sload_ok E ps a b ha hb
 rw [h0] at hl
 refine Does.of Tryz.func52 rfl Tryz.ntmps52 rfl rfl fun F => ?_
 refine J.norm ?_
 refine Sr ?_
 refine Lq (Q_assign rfl) ?_
 refine Lq (Q_assign rfl) ?_
 refine Ln ?_
 refine Sr ?_
 refine L_o rfl rfl rfl (O_call [] [0,1,2] (tnew_ok E) rfl rfl ?_)
 rintro _ _ ⟨q, rfl, rfl⟩
 refine JL.norm ?_
 refine Lq (Q_assign rfl) ?_
 refine Ln ?_
 refine Sr ?_
 refine Lq (Q_move rfl) ?_
 refine Lq (Q_nilCheck rfl) ?_
 refine Lq (Q_fa0 rfl) ?_
 refine Lq (Q_ld 1 rfl rfl rfl rfl) ?_
 refine L_o rfl rfl rfl (O_call [2] [0,1,3] hl rfl rfl ?_)
 rintro _ _ ⟨rfl, rfl⟩
 refine JL.norm ?_
 refine Lq (Q_move rfl) ?_
 refine Lq (Q_extract (v := str (loadT a b)) rfl rfl) ?_
 refine Lq (Q_extract (v := .int .i64 0) rfl rfl) ?_
 refine Lq (Q_assign rfl) ?_
 refine Lq (Q_assign rfl) ?_
 refine Ln ?_
 refine J_seq ?_
 refine Sr ?_
 refine Lq (Q_move rfl) ?_
 refine Lq ((Q_eql rfl rfl).as (v' := .bool true) rfl) ?_
 refine Ln ?_
 refine J_condT rfl ?_
 refine Sr ?_
 refine Lq (Q_move rfl) ?_
 refine Lq (Q_assign rfl) ?_
 refine Lq (Q_assign rfl) ?_
 refine Ln ?_
 refine J_ret ?_
 refine seqQ_ret ?_
 exact retQ_ret _ [kvC p pt pl ps saved, snapA ps a b, treeA q []] (.cons (RV_tmp rfl) (.cons (RV_tmp rfl) .nil)) ⟨q, rfl, rfl⟩ (Ent.re [2,0,1,3] rfl)
theorem kload_ok (E : World) (p pt pl ps : Nat) (saved : Int) (a b : List UInt8) (s : Nat) (base : List Kv) (ha : a.length ≤ 100000) (hb : b.length ≤ 100000) (h0 : loadN a b ≠ 0) (hT : loadT a b = four s ++ texts (flat (toPr base))) (hs : s < 2 ^ 31) (hu : Up base) (hlen : base.length ≤ 100000) (hbig : ∀ x ∈ flat (toPr base), x.length < 2 ^ 32) (htl : (texts (flat (toPr base))).length ≤ 1000000) : Does Tryz.prog E 52 [.pointer (some ⟨p, 0, none⟩)] [kvC p pt pl ps saved, snapA ps a b] fun r L => ∃ q : Nat, r = .tuple #[.pointer (some ⟨q, 0, none⟩), .int .i64 (s : Int)] ∧ L = [kvC p pt pl ps saved, snapA ps a b, treeA q base] := by
 have hl := sload_ok E ps a b ha hb
 have hup := unp_pack hu hbig
 have hfl : (four s).length = 4 := rfl
 rw [hT] at hl
 refine Does.of Tryz.func52 rfl Tryz.ntmps52 rfl rfl fun F => ?_
 refine J.norm ?_
 refine Sr ?_
 refine Lq (Q_assign rfl) ?_
 refine Lq (Q_assign rfl) ?_
 refine Ln ?_
 refine Sr ?_
 refine L_o rfl rfl rfl (O_call [] [0,1,2] (tnew_ok E) rfl rfl ?_)
 rintro _ _ ⟨q, rfl, rfl⟩
 refine JL.norm ?_
 refine Lq (Q_assign rfl) ?_
 refine Ln ?_
 refine Sr ?_
 refine Lq (Q_move rfl) ?_
 refine Lq (Q_nilCheck rfl) ?_
 refine Lq (Q_fa0 rfl) ?_
 refine Lq (Q_ld 1 rfl rfl rfl rfl) ?_
 refine L_o rfl rfl rfl (O_call [2] [0,1,3] hl rfl rfl ?_)
 rintro _ _ ⟨rfl, rfl⟩
 refine JL.norm ?_
 refine Lq (Q_move rfl) ?_
 refine Lq (Q_extract (v := str (four s ++ texts (flat (toPr base)))) rfl rfl) ?_
 refine Lq (Q_extract (v := .int .i64 (loadN a b : Int)) rfl rfl) ?_
 refine Lq (Q_assign rfl) ?_
 refine Lq (Q_assign rfl) ?_
 refine Ln ?_
 refine J_seq ?_
 refine Sr ?_
 refine Lq (Q_move rfl) ?_
 refine Lq ((Q_eql rfl rfl).as (v' := .bool false) (congrArg Value.bool (decide_eq_false (by omega)))) ?_
 refine Ln ?_
 refine J_condF rfl ?_
 refine J_skip ?_
 refine seqQ_normal ?_
 refine Sr ?_
 refine Lq (Q_assign rfl) ?_
 refine Ln ?_
 refine J_seq ?_
 refine J_seq ?_
 have et : (four s ++ texts (flat (toPr base))).take 4 = four s := rfl
 have ed : (four s ++ texts (flat (toPr base))).drop 4 = texts (flat (toPr base)) := rfl
 refine J_region ?_
 refine Lq (Q_move rfl) ?_
 refine Lq (Q_ssH 4 rfl rfl rfl (by rw [List.length_append, hfl]; omega)) ?_
 refine L_o rfl rfl rfl (O_s2b tB_enc rfl rfl (by rw [et, hfl]; omega) (fun S => ?_))
 refine JL.norm ?_
 refine Lq (Q_lenAt 0 rfl rfl) ?_
 refine Lq (Q_move rfl) ?_
 refine Ln ?_
 refine J_block ?_
 rw [et]
 refine J.cutB (fun x ρ' L' => x = .normal ∧ envSub [(4, .pointer (some ⟨q, 0, none⟩)), (5, str (four s ++ texts (flat (toPr base)))), (7, .int .i64 (s : Int))] ρ' ∧ Ent L' [snapA ps a b, treeA q [], kvC p pt pl ps saved, F]) ?_ ?_
 ·refine J_loop (fun k : Nat => k ≤ 4) (fun k => [(4, .pointer (some ⟨q, 0, none⟩)), (5, str (four s ++ texts (flat (toPr base)))), (7, .int .i64 (be ((four s).take k) : Int)), (28, S.v), (29, .int .i64 (4 : Int)), (30, .int .i64 (k : Int))]) (fun _ => [slc tB true S (four s), snapA ps a b, treeA q [], kvC p pt pl ps saved, F]) (fun k => 4 - k) 0 (by decide) ⟨rfl, rfl, rfl, rfl, rfl, rfl, trivial⟩ (Ent.refl _) ?_
  intro k hk
  refine Sr ?_
  refine Lq (Q_lss rfl rfl) ?_
  refine Ln ?_
  refine J_seq ?_
  refine J_condD rfl (fun h2 => ?_) (fun h2 => ?_)
  ·have hlt : k < (four s).length := by rw [hfl]; omega
   have hb2 := be_lt4 ((four s).take k) k (by simp; omega)
   have hp := kpow_le (show k < 4 by omega)
   have hs1 : be ((four s).take (k + 1)) = be ((four s).take k) * 256 + (four s)[k].toNat := by rw [List.take_succ_eq_append_getElem hlt, be_snoc]
   have hu8 := (four s)[k].toNat_lt
   generalize be ((four s).take k) = n at *
   refine J_skip ?_
   refine seqQ_normal ?_
   refine J_seq ?_
   refine J_block ?_
   refine Sr ?_
   refine Lq (Q_ixAt 0 k rfl rfl rfl rfl hlt rfl) ?_
   refine Lq (Q_ldEAt 0 k 0 (v := .int .u8 ((four s)[k].toNat : Int)) rfl rfl rfl rfl hlt (by decide) rfl) ?_
   refine Lq (Q_assign rfl) ?_
   refine Ln ?_
   refine J_region ?_
   refine Lq (Q_move rfl) ?_
   refine Lq (Q_shlZ n 8 rfl rfl rfl rfl (by decide) (by omega)) ?_
   refine Lq (Q_move rfl) ?_
   refine Lq (Q_cvt rfl (by first | exact IntWalk.i64_in _ (by omega) | exact IntWalk.u8_in _ (by omega) | exact IntWalk.u32_in _ (by omega) | exact IntWalk.u64_in _ (by omega) | rfl)) ?_
   refine Lq ((Q_orZ (n * 2 ^ 8) (four s)[k].toNat rfl rfl rfl rfl (by omega) (by omega)).as (v' := .int .i64 (be ((four s).take (k + 1)) : Int)) (by rw [kor_8 n _ (by omega), hs1])) ?_
   refine Lq (Q_assign rfl) ?_
   refine JL_nil ?_
   refine blockQ_normal ?_
   refine seqQ_normal ?_
   refine J_region ?_
   refine Lq (Q_add rfl rfl (by first | exact IntWalk.i64_in _ (by omega) | exact IntWalk.u8_in _ (by omega) | exact IntWalk.u32_in _ (by omega) | exact IntWalk.u64_in _ (by omega) | rfl)) ?_
   refine Lq (Q_move rfl) ?_
   refine JL_nil ?_
   exact loopQ_normal (k + 1) (by show k + 1 ≤ 4; omega) (by show 4 - (k + 1) < 4 - k; omega) ⟨rfl, rfl, rfl, rfl, rfl, rfl, trivial⟩ (Ent.refl _)
  ·obtain rfl : k = 4 := by omega
   have hbe : be ((four s).take 4) = s := by
    show be (four s) = s
    rw [be_four]; omega
   rw [hbe]
   refine J_exit ?_
   refine seqQ_exit ?_
   refine loopQ_exit ?_
   refine blockQ_hit ?_
   exact ⟨rfl, ⟨rfl, rfl, rfl, trivial⟩, Ent.re [1,2,3,4] rfl⟩
 rintro _ ρ1 L1 ⟨rfl, hsub, hent⟩
 refine seqQ_normal ?_
 refine J.sub hsub ?_
 refine J.ent hent ?_
 clear hsub hent
 refine J_seq ?_
 have hun := unpack_ok E (texts (flat (toPr base))) (by omega)
 rw [hup] at hun
 refine J_region ?_
 refine Lq (Q_move rfl) ?_
 refine Lq (Q_ssL 4 rfl rfl rfl (by rw [List.length_append, hfl]; omega)) ?_
 refine L_o rfl rfl rfl (O_call [] [0,1,2,3] hun rfl rfl ?_)
 rintro _ _ ⟨S2, rfl, rfl⟩
 refine JL.norm ?_
 refine Lq (Q_move rfl) ?_
 refine Lq (Q_extract (v := S2.v) rfl rfl) ?_
 refine Lq (Q_extract (v := .int .i64 (unpE (texts (flat (toPr base))))) rfl rfl) ?_
 refine Lq (Q_assign rfl) ?_
 refine Lq (Q_assign rfl) ?_
 refine Ln ?_
 refine J_seq ?_
 refine J_seq ?_
 rw [← slc_toPr]
 refine J_region ?_
 refine Lq (Q_move rfl) ?_
 refine Lq (Q_lenAt 0 rfl rfl) ?_
 refine Lq (Q_move rfl) ?_
 refine Ln ?_
 refine J_block ?_
 refine J.cutB (fun x ρ' L' => x = .normal ∧ envSub [(4, .pointer (some ⟨q, 0, none⟩)), (7, .int .i64 (s : Int))] ρ' ∧ Ent L' [snapA ps a b, treeA q base, kvC p pt pl ps saved, F]) ?_ ?_
 ·refine J_loop (fun k : Nat => k ≤ base.length) (fun k => [(4, .pointer (some ⟨q, 0, none⟩)), (7, .int .i64 (s : Int)), (46, S2.v), (47, .int .i64 (base.length : Int)), (48, .int .i64 (k : Int))]) (fun k => [slc tKv true S2 base, treeA q (base.take k), snapA ps a b, kvC p pt pl ps saved, F]) (fun k => base.length - k) 0 (Nat.zero_le _) ⟨rfl, rfl, rfl, rfl, rfl, trivial⟩ (Ent.re [0,2,1,3,4] rfl) ?_
  intro k hk
  refine Sr ?_
  refine Lq (Q_lss rfl rfl) ?_
  refine Ln ?_
  refine J_seq ?_
  refine J_condD rfl (fun h2 => ?_) (fun h2 => ?_)
  ·have hlt : k < base.length := by omega
   have htp := take_put hu hlt
   have hput := tput_ok E q (base.take k) base[k].key base[k].val (by simp; omega)
   rw [htp] at hput
   refine J_skip ?_
   refine seqQ_normal ?_
   refine J_seq ?_
   refine J_block ?_
   refine Sr ?_
   refine Lq (Q_ixAt 0 k rfl rfl rfl rfl hlt rfl) ?_
   refine Lq (Q_ldEAAt 0 k 0 (vs := kvV base[k]) rfl rfl rfl rfl hlt (by decide) rfl) ?_
   refine L_o rfl rfl rfl (O_alloc fun b13 => ?_)
   refine L_s rfl rfl (O_stW 0 rfl rfl rfl rfl ?_)
   refine JL.norm ?_
   refine Ln ?_
   refine J_region ?_
   refine Lq (Q_move rfl) ?_
   refine Lq (Q_fa0 rfl) ?_
   refine Lq (Q_ld 0 rfl rfl rfl rfl) ?_
   refine Lq (Q_fa0 rfl) ?_
   refine Lq (Q_ld 0 rfl rfl rfl rfl) ?_
   refine L_o rfl rfl rfl (O_call [2] [0,1,3,4,5] hput rfl rfl ?_)
   rintro _ _ ⟨rfl, rfl⟩
   refine JL.norm ?_
   refine JL_nil ?_
   refine blockQ_normal ?_
   refine seqQ_normal ?_
   refine J_region ?_
   refine Lq (Q_add rfl rfl (by first | exact IntWalk.i64_in _ (by omega) | exact IntWalk.u8_in _ (by omega) | exact IntWalk.u32_in _ (by omega) | exact IntWalk.u64_in _ (by omega) | rfl)) ?_
   refine Lq (Q_move rfl) ?_
   refine JL_nil ?_
   exact loopQ_normal (k + 1) hlt (by show base.length - (k + 1) < base.length - k; omega) ⟨rfl, rfl, rfl, rfl, rfl, trivial⟩ (Ent.re [2,0,3,4,5] rfl)
  ·obtain rfl : k = base.length := by omega
   rw [List.take_length]
   refine J_exit ?_
   refine seqQ_exit ?_
   refine loopQ_exit ?_
   refine blockQ_hit ?_
   exact ⟨rfl, ⟨rfl, rfl, trivial⟩, Ent.re [2,1,3,4] rfl⟩
 rintro _ ρ2 L2 ⟨rfl, hsub, hent⟩
 refine seqQ_normal ?_
 refine J.sub hsub ?_
 refine J.ent hent ?_
 clear hsub hent
 refine Sr ?_
 refine Lq (Q_move rfl) ?_
 refine Lq (Q_move rfl) ?_
 refine Lq (Q_assign rfl) ?_
 refine Lq (Q_assign rfl) ?_
 refine Ln ?_
 refine J_ret ?_
 exact retQ_ret _ [kvC p pt pl ps saved, snapA ps a b, treeA q base] (.cons (RV_tmp rfl) (.cons (RV_tmp rfl) .nil)) ⟨q, rfl, rfl⟩ (Ent.re [2,0,1,3] rfl)
end Go.Proofs
/- A state saved. -/
set_option autoImplicit false
namespace Go.Proofs
open Go.SL Go.Proofs.Bt
/-- The bytes of a state. -/
def bodyK (s : Nat) (t : List Kv) : List UInt8 := four s ++ texts (flat (toPr t))
attribute [local irreducible] J JL QOp JOp seqQ blockQ loopQ retQ slc cel hex star pur stars Does RV Ent pAt scopeQ
attribute [local irreducible] nodeA nodeX treeA segA snapA
end Go.Proofs
/- A crash, and what is there behind it. -/
set_option autoImplicit false
namespace Go.Proofs
open Go.SL Go.Proofs.Bt
/-- What the slots tell: the state with its number. -/
structure Told (a b : List UInt8) (s : Nat) (base : List Kv) : Prop where
 la : a.length ≤ 40000
 lb : b.length ≤ 40000
 h : (loadN a b = 0 ∧ s = 0 ∧ base = []) ∨ (loadN a b ≠ 0 ∧ loadT a b = bodyK s base)
 s : s < 2 ^ 31
 up : Up base
 w : (texts (flat (toPr base))).length ≤ 40000
theorem texts_mem {l : List (List UInt8)} {x : List UInt8} (h : x ∈ l) : x.length ≤ (texts l).length := by
 induction l with
 | nil => cases h
 | cons y l ih =>
  have e : texts (y :: l) = four y.length ++ y ++ texts l := by simp [texts]
  rw [e, List.length_append, List.length_append]
  rcases List.mem_cons.1 h with rfl | h
  ·omega
  ·have := ih h; omega
theorem texts_w (l : List Kv) : 8 * l.length ≤ (texts (flat (toPr l))).length := by
 induction l with
 | nil => exact Nat.zero_le _
 | cons x l ih =>
  have e : texts (flat (toPr (x :: l))) = (four x.key.length ++ x.key) ++ ((four x.val.length ++ x.val) ++ texts (flat (toPr l))) := by
   show texts (x.key :: x.val :: flat (toPr l)) = _
   simp [texts]
  rw [e]
  simp only [List.length_append, List.length_cons, four_len]
  omega
/-- Records n of them from s on, done to a state. -/
def rep (fs : List Fl) (s : Nat) (base : List Kv) : Nat → List Kv
 | 0 => base
 | n + 1 => chL (rep fs s base n) (readC (getL fs ((s + n : Nat) : Int)).1)
theorem chL_up {l : List Kv} (h : Up l) (c : Chg) : Up (chL l c) := by
 cases c with
 | put k v => exact up_put h k v
 | del k => exact up_del h k
 | none => exact h
theorem chL_len {l : List Kv} (h : Up l) (c : Chg) : (chL l c).length ≤ l.length + 1 := by
 cases c with
 | put k v => show (putL l k v).length ≤ _; rw [put_len h]; split <;> omega
 | del k => show (delL l k).length ≤ _; rw [del_len h]; split <;> omega
 | none => show l.length ≤ _; omega
theorem rep_up {fs : List Fl} {s : Nat} {base : List Kv} (h : Up base) : ∀ n, Up (rep fs s base n)
 | 0 => h
 | n + 1 => chL_up (rep_up h n) _
theorem rep_len {fs : List Fl} {s : Nat} {base : List Kv} (h : Up base) : ∀ n, (rep fs s base n).length ≤ base.length + n
 | 0 => Nat.le_refl _
 | n + 1 => by have h1 := chL_len (rep_up (fs := fs) (s := s) h n) (readC (getL fs ((s + n : Nat) : Int)).1); have := rep_len h (fs := fs) (s := s) n; show (chL _ _).length ≤ _; omega
theorem getL_text : ∀ (fs : List Fl) (i : Int), (∀ f ∈ fs, ∀ t ∈ f.l, t.length ≤ 4096) → (getL fs i).1.length ≤ 4096
 | [], _, _ => by simp [getL]
 | f :: r, i, h => by
  rw [getL]
  split
  ·rw [List.getD_eq_getElem?_getD]
   cases e : f.l[(i - f.first).toNat]? with
   | none => simp
   | some t => exact h f (by simp) t (List.mem_of_getElem? e)
  ·exact getL_text r i fun f hf => h f (by simp [hf])
attribute [local irreducible] J JL QOp JOp seqQ blockQ loopQ retQ slc cel hex star pur stars Does RV Ent pAt scopeQ
attribute [local irreducible] nodeA nodeX treeA segA snapA
theorem kloadU_ok (E : World) (p pt pl ps : Nat) (saved : Int) (a b : List UInt8) (s : Nat) (base : List Kv) (h : Told a b s base) : Does Tryz.prog E 52 [.pointer (some ⟨p, 0, none⟩)] [kvC p pt pl ps saved, snapA ps a b] fun r L => ∃ q : Nat, r = .tuple #[.pointer (some ⟨q, 0, none⟩), .int .i64 (s : Int)] ∧ L = [kvC p pt pl ps saved, snapA ps a b, treeA q base] := by
 have ha := h.la
 have hb := h.lb
 have hw := h.w
 have h8 := texts_w base
 rcases h.h with ⟨h1, rfl, rfl⟩ | ⟨h1, h2⟩
 ·exact kload0_ok E p pt pl ps saved a b (by omega) (by omega) h1
 ·exact kload_ok E p pt pl ps saved a b s base (by omega) (by omega) h1 h2 h.s h.up (by omega) (fun x hx => by have := texts_mem hx; omega) (by omega)
theorem kcrash_ok (E : World) (p pt pl ps c : Nat) (saved : Int) (g : Lg) (t : List Kv) (a b : List UInt8) (s keep : Nat) (base : List Kv) (hg : Good g c) (hc : c ≤ 800000) (hT : Told a b s base) (hk : keep < 2 ^ 64) (hf : firstOf (crashL g keep).fs ≤ s) (hn : s ≤ nextOf (crashL g keep).fs) :
 Does Tryz.prog E 20 [.pointer (some ⟨p, 0, none⟩), .int .u64 (keep : Int)] [kvC p pt pl ps saved, treeA pt t, segA pl g, snapA ps a b] fun r L => ∃ q : Nat, r = .tuple #[] ∧ L = [kvC p q pl ps (s : Int), treeA q (rep (crashL g keep).fs s base (nextOf (crashL g keep).fs - s)), segA pl (crashL g keep), snapA ps a b] := by
 have hg2 := hg.crash (keep := keep)
 have hcr := gcrash_ok E pl c g hg (by omega) keep hk
 have hld := kloadU_ok E p pt pl ps saved a b s base hT
 have hbw := texts_w base
 have hbw2 := hT.w
 have hu := hT.up
 have hnx := gnext_ok E pl (c + 8192) (crashL g keep) hg2 (by omega)
 have hfi := gfirst_ok E pl (c + 8192) (crashL g keep) hg2
 have hge := gget_ok E pl (c + 8192) (crashL g keep) hg2 (by omega)
 have hle := hg2.next
 have htx := fun i => getL_text (crashL g keep).fs i (fun f hf => (hg2.file f hf).2.2.1)
 refine Does.of Tryz.func20 rfl Tryz.ntmps20 rfl rfl fun F => ?_
 refine J.norm ?_
 refine J_seq ?_
 refine Sr ?_
 refine Lq (Q_move rfl) ?_
 refine Lq ((Q_peql rfl rfl).as (v' := .bool false) rfl) ?_
 refine Ln ?_
 refine J_condF rfl ?_
 refine J_skip ?_
 refine seqQ_normal ?_
 refine Sr ?_
 refine Lq (Q_move rfl) ?_
 refine Lq (Q_nilCheck rfl) ?_
 refine Lq (Q_fa0 rfl) ?_
 refine Lq (Q_ld 0 rfl rfl rfl rfl) ?_
 refine Lq (Q_move rfl) ?_
 refine L_o rfl rfl rfl (O_call [2] [0,1,3,4] hcr rfl rfl ?_)
 rintro _ _ ⟨rfl, rfl⟩
 refine JL.norm ?_
 refine Ln ?_
 refine J_seq ?_
 generalize crashL g keep = g' at *
 refine J_region ?_
 refine Lq (Q_move rfl) ?_
 refine Lq (Q_move rfl) ?_
 refine Lq (Q_move rfl) ?_
 refine L_o rfl rfl rfl (O_call [1,3] [0,2,4] hld rfl rfl ?_)
 rintro _ _ ⟨q, rfl, rfl⟩
 refine JL.norm ?_
 refine Lq (Q_move rfl) ?_
 refine Lq (Q_extract (v := .pointer (some ⟨q, 0, none⟩)) rfl rfl) ?_
 refine Lq (Q_extract (v := .int .i64 (s : Int)) rfl rfl) ?_
 refine Lq (Q_nilCheck rfl) ?_
 refine Lq (Q_fa0 rfl) ?_
 refine L_s rfl rfl (O_st1 0 rfl rfl rfl rfl rfl ?_)
 refine JL.norm ?_
 refine Lq (Q_nilCheck rfl) ?_
 refine Lq (Q_fa0 rfl) ?_
 refine L_s rfl rfl (O_st1 0 rfl rfl rfl rfl rfl ?_)
 refine JL.norm ?_
 refine Ln ?_
 refine J_seq ?_
 refine J.ent (L' := [kvC p q pl ps (s : Int), treeA q base, segA pl g', snapA ps a b, F]) (Ent.re [0,2,3,1,5] rfl) ?_
 refine DH [0] [0,1,2,3,4,5,6,7,9,10] (.quiet 0 (.quiet 1 (.quiet 2 (.quiet 3 (.quiet 4 (.quiet 5 (.quiet 6 (.quiet 7 (.loud 8 (.quiet 9 (.quiet 10 .done))))))))))) Tryz.mixed ?_
 refine Sq (Ent.re [0] rfl) rfl (Q_move rfl) ?_
 refine Sq (Ent.re [0] rfl) rfl (Q_nilCheck rfl) ?_
 refine Sq (Ent.re [0] rfl) rfl (Q_fa0 rfl) ?_
 refine Sq (Ent.re [0] rfl) rfl (Q_ld 0 rfl rfl rfl rfl) ?_
 refine Sq (Ent.re [0] rfl) rfl (Q_move rfl) ?_
 refine Sq (Ent.re [0] rfl) rfl (Q_nilCheck rfl) ?_
 refine Sq (Ent.re [0] rfl) rfl (Q_fa0 rfl) ?_
 refine Sq (Ent.re [0] rfl) rfl (Q_ld 0 rfl rfl rfl rfl) ?_
 refine S_o rfl rfl rfl rfl (O_call [2] [0,1,3,4] hfi rfl rfl ?_)
 (rintro _ _ ⟨rfl, rfl⟩; refine ⟨_, fun _ => ⟨Ent.reN [1] rfl, Ent.refl _⟩, ?_⟩)
 refine JS.norm ?_
 refine Sq (Ent.re [1] rfl) rfl ((Q_max2 rfl rfl).as (v' := .int .i64 (s : Int)) (congrArg (Value.int .i64) (by omega))) ?_
 refine Sq (Ent.re [1] rfl) rfl (Q_assign rfl) ?_
 refine S_nil ?_
 refine seqQ_normal ?_
 refine J_block ?_
 refine J_loop (fun k : Nat => s + k ≤ nextOf g'.fs) (fun k => [(0, .pointer (some ⟨p, 0, none⟩)), (4, .int .i64 ((s + k : Nat) : Int))]) (fun k => [kvC p q pl ps (s : Int), treeA q (rep g'.fs s base k), segA pl g', snapA ps a b, F]) (fun k => nextOf g'.fs - (s + k)) 0 hn ⟨rfl, rfl, trivial⟩ (Ent.re [1,2,0,3,4] rfl) ?_
 intro k hk2
 refine J_seq ?_
 refine Sr ?_
 refine Lq (Q_move rfl) ?_
 refine Lq (Q_move rfl) ?_
 refine Lq (Q_nilCheck rfl) ?_
 refine Lq (Q_fa0 rfl) ?_
 refine Lq (Q_ld 0 rfl rfl rfl rfl) ?_
 refine L_o rfl rfl rfl (O_call [2] [0,1,3,4] hnx rfl rfl ?_)
 rintro _ _ ⟨rfl, rfl⟩
 refine JL.norm ?_
 refine Lq (Q_lss rfl rfl) ?_
 refine Ln ?_
 refine J_condD rfl (fun h2 => ?_) (fun h2 => ?_)
 ·have hlt : s + k < nextOf g'.fs := by omega
  have hlen := rep_len (fs := g'.fs) (s := s) hu k
  have hst : rep g'.fs s base (k + 1) = chL (rep g'.fs s base k) (readC (getL g'.fs ((s + k : Nat) : Int)).1) := rfl
  have ht2 := htx ((s + k : Nat) : Int)
  have hgi : getV g'.fs ((s + k : Nat) : Int) = .tuple #[str (getL g'.fs ((s + k : Nat) : Int)).1, .int .i64 (getL g'.fs ((s + k : Nat) : Int)).2] := rfl
  have hgk := hge ((s + k : Nat) : Int)
  rw [hgi] at hgk
  generalize getL g'.fs ((s + k : Nat) : Int) = r at *
  generalize hrk : rep g'.fs s base k = l at *
  refine J_skip ?_
  refine seqQ_normal ?_
  refine J_seq ?_
  refine J_block ?_
  refine Sr ?_
  refine Lq (Q_move rfl) ?_
  refine Lq (Q_nilCheck rfl) ?_
  refine Lq (Q_fa0 rfl) ?_
  refine Lq (Q_ld 1 rfl rfl rfl rfl) ?_
  refine Lq (Q_move rfl) ?_
  refine L_o rfl rfl rfl (O_call [0] [1,2,3,4] hgk rfl rfl ?_)
  rintro _ _ ⟨rfl, rfl⟩
  refine JL.norm ?_
  refine Lq (Q_move rfl) ?_
  refine Lq (Q_extract (v := str r.1) rfl rfl) ?_
  refine Lq (Q_extract (v := .int .i64 r.2) rfl rfl) ?_
  refine Lq (Q_assign rfl) ?_
  refine Lq (Q_assign rfl) ?_
  refine Ln ?_
  have hrd := kread_ok E r.1 (by omega)
  cases hr : readC r.1 with
  | put kk vv =>
   rw [hr] at hrd hst
   refine DH [1] [0,2,3,4,5,6,7,8] (.quiet 0 (.quiet 2 (.quiet 3 (.quiet 4 (.quiet 5 (.loud 1 (.quiet 6 (.quiet 7 (.quiet 8 (.loud 9 .done)))))))))) Tryz.mixed ?_
   refine Sq (Ent.re [1] rfl) rfl (Q_move rfl) ?_
   refine Sq (Ent.re [1] rfl) rfl (Q_move rfl) ?_
   refine Sq (Ent.re [1] rfl) rfl (Q_nilCheck rfl) ?_
   refine Sq (Ent.re [1] rfl) rfl (Q_fa0 rfl) ?_
   refine Sq (Ent.re [1] rfl) rfl (Q_ld 0 rfl rfl rfl rfl) ?_
   refine S_o rfl rfl rfl rfl (O_call [] [0,1,2,3,4] hrd rfl rfl ?_)
   (rintro _ _ ⟨rfl, rfl⟩; refine ⟨_, fun _ => ⟨Ent.reN [1] rfl, Ent.refl _⟩, ?_⟩)
   refine JS.norm ?_
   refine Sq (Ent.re [1] rfl) rfl (Q_makeFunc (xs := [.tmp 55]) (ys := []) (vs := [chV (.put kk vv)]) (us := []) rfl rfl) ?_
   refine Sq (Ent.re [1] rfl) rfl (Q_nilMeth metPD rfl) ?_
   refine Sq (Ent.re [1] rfl) rfl (Q_move rfl) ?_
   refine S_o rfl rfl rfl rfl (O_invoke [2] [0,1,3,4] metPD rfl rfl (putD_ok E q l kk vv (by omega)) rfl ?_)
   (rintro _ _ ⟨rfl, rfl⟩; refine ⟨_, fun _ => ⟨Ent.reN [2] rfl, Ent.refl _⟩, ?_⟩)
   refine JS.norm ?_
   refine S_nil ?_
   refine blockQ_normal ?_
   refine seqQ_normal ?_
   refine J_region ?_
   refine Lq (Q_move rfl) ?_
   refine Lq (Q_add rfl rfl (by first | exact IntWalk.i64_in _ (by omega) | exact IntWalk.u8_in _ (by omega) | exact IntWalk.u32_in _ (by omega) | exact IntWalk.u64_in _ (by omega) | rfl)) ?_
   refine Lq (Q_assign rfl) ?_
   refine JL_nil ?_
   refine loopQ_normal (k + 1) (by show s + (k + 1) ≤ _; omega) (by show nextOf g'.fs - (s + (k + 1)) < nextOf g'.fs - (s + k); omega) ⟨rfl, rfl, trivial⟩ ?_
   show Ent _ [kvC p q pl ps (s : Int), treeA q (rep g'.fs s base (k + 1)), segA pl g', snapA ps a b, F]
   rw [hst]
   exact Ent.re [2,0,1,3,4] rfl
  | del kk =>
   rw [hr] at hrd hst
   refine DH [1] [0,2,3,4,5,6,7,8] (.quiet 0 (.quiet 2 (.quiet 3 (.quiet 4 (.quiet 5 (.loud 1 (.quiet 6 (.quiet 7 (.quiet 8 (.loud 9 .done)))))))))) Tryz.mixed ?_
   refine Sq (Ent.re [1] rfl) rfl (Q_move rfl) ?_
   refine Sq (Ent.re [1] rfl) rfl (Q_move rfl) ?_
   refine Sq (Ent.re [1] rfl) rfl (Q_nilCheck rfl) ?_
   refine Sq (Ent.re [1] rfl) rfl (Q_fa0 rfl) ?_
   refine Sq (Ent.re [1] rfl) rfl (Q_ld 0 rfl rfl rfl rfl) ?_
   refine S_o rfl rfl rfl rfl (O_call [] [0,1,2,3,4] hrd rfl rfl ?_)
   (rintro _ _ ⟨rfl, rfl⟩; refine ⟨_, fun _ => ⟨Ent.reN [1] rfl, Ent.refl _⟩, ?_⟩)
   refine JS.norm ?_
   refine Sq (Ent.re [1] rfl) rfl (Q_makeFunc (xs := [.tmp 55]) (ys := []) (vs := [chV (.del kk)]) (us := []) rfl rfl) ?_
   refine Sq (Ent.re [1] rfl) rfl (Q_nilMeth metDD rfl) ?_
   refine Sq (Ent.re [1] rfl) rfl (Q_move rfl) ?_
   refine S_o rfl rfl rfl rfl (O_invoke [2] [0,1,3,4] metDD rfl rfl (delD_ok E q l kk (by omega)) rfl ?_)
   (rintro _ _ ⟨rfl, rfl⟩; refine ⟨_, fun _ => ⟨Ent.reN [2] rfl, Ent.refl _⟩, ?_⟩)
   refine JS.norm ?_
   refine S_nil ?_
   refine blockQ_normal ?_
   refine seqQ_normal ?_
   refine J_region ?_
   refine Lq (Q_move rfl) ?_
   refine Lq (Q_add rfl rfl (by first | exact IntWalk.i64_in _ (by omega) | exact IntWalk.u8_in _ (by omega) | exact IntWalk.u32_in _ (by omega) | exact IntWalk.u64_in _ (by omega) | rfl)) ?_
   refine Lq (Q_assign rfl) ?_
   refine JL_nil ?_
   refine loopQ_normal (k + 1) (by show s + (k + 1) ≤ _; omega) (by show nextOf g'.fs - (s + (k + 1)) < nextOf g'.fs - (s + k); omega) ⟨rfl, rfl, trivial⟩ ?_
   show Ent _ [kvC p q pl ps (s : Int), treeA q (rep g'.fs s base (k + 1)), segA pl g', snapA ps a b, F]
   rw [hst]
   exact Ent.re [2,0,1,3,4] rfl
  | none =>
   rw [hr] at hrd hst
   refine DH [1] [0,2,3,4,5,6,7,8] (.quiet 0 (.quiet 2 (.quiet 3 (.quiet 4 (.quiet 5 (.loud 1 (.quiet 6 (.quiet 7 (.quiet 8 (.loud 9 .done)))))))))) Tryz.mixed ?_
   refine Sq (Ent.re [1] rfl) rfl (Q_move rfl) ?_
   refine Sq (Ent.re [1] rfl) rfl (Q_move rfl) ?_
   refine Sq (Ent.re [1] rfl) rfl (Q_nilCheck rfl) ?_
   refine Sq (Ent.re [1] rfl) rfl (Q_fa0 rfl) ?_
   refine Sq (Ent.re [1] rfl) rfl (Q_ld 0 rfl rfl rfl rfl) ?_
   refine S_o rfl rfl rfl rfl (O_call [] [0,1,2,3,4] hrd rfl rfl ?_)
   (rintro _ _ ⟨rfl, rfl⟩; refine ⟨_, fun _ => ⟨Ent.reN [1] rfl, Ent.refl _⟩, ?_⟩)
   refine JS.norm ?_
   refine Sq (Ent.re [1] rfl) rfl (Q_makeFunc (xs := [.tmp 55]) (ys := []) (vs := [chV .none]) (us := []) rfl rfl) ?_
   refine Sq (Ent.re [1] rfl) rfl (Q_nilMeth metND rfl) ?_
   refine Sq (Ent.re [1] rfl) rfl (Q_move rfl) ?_
   refine S_o rfl rfl rfl rfl (O_invoke [2] [0,1,3,4] metND rfl rfl (noneD_ok E q l) rfl ?_)
   (rintro _ _ ⟨rfl, rfl⟩; refine ⟨_, fun _ => ⟨Ent.reN [2] rfl, Ent.refl _⟩, ?_⟩)
   refine JS.norm ?_
   refine S_nil ?_
   refine blockQ_normal ?_
   refine seqQ_normal ?_
   refine J_region ?_
   refine Lq (Q_move rfl) ?_
   refine Lq (Q_add rfl rfl (by first | exact IntWalk.i64_in _ (by omega) | exact IntWalk.u8_in _ (by omega) | exact IntWalk.u32_in _ (by omega) | exact IntWalk.u64_in _ (by omega) | rfl)) ?_
   refine Lq (Q_assign rfl) ?_
   refine JL_nil ?_
   refine loopQ_normal (k + 1) (by show s + (k + 1) ≤ _; omega) (by show nextOf g'.fs - (s + (k + 1)) < nextOf g'.fs - (s + k); omega) ⟨rfl, rfl, trivial⟩ ?_
   show Ent _ [kvC p q pl ps (s : Int), treeA q (rep g'.fs s base (k + 1)), segA pl g', snapA ps a b, F]
   rw [hst]
   exact Ent.re [2,0,1,3,4] rfl
 ·obtain rfl : k = nextOf g'.fs - s := by omega
  refine J_exit ?_
  refine seqQ_exit ?_
  refine loopQ_exit ?_
  refine blockQ_hit ?_
  exact retQ_normal [] [kvC p q pl ps (s : Int), treeA q (rep g'.fs s base (nextOf g'.fs - s)), segA pl g', snapA ps a b] .nil ⟨q, rfl, rfl⟩ (Ent.re [1,2,0,3,4] rfl)
end Go.Proofs
/- A store's state in plain Lean: what is done to it keeps what holds of it. -/
set_option autoImplicit false
namespace Go.Proofs
open Go.SL Go.Proofs.Bt
/-! ### The weight of pairs -/
def wt (l : List Kv) : Nat := (l.map fun x => 8 + x.key.length + x.val.length).sum
theorem wt_cons (x : Kv) (l : List Kv) : wt (x :: l) = 8 + x.key.length + x.val.length + wt l := by simp [wt]
theorem texts_wt (l : List Kv) : (texts (flat (toPr l))).length = wt l := by
 induction l with
 | nil => rfl
 | cons x l ih =>
  have e : texts (flat (toPr (x :: l))) = (four x.key.length ++ x.key) ++ ((four x.val.length ++ x.val) ++ texts (flat (toPr l))) := by
   show texts (x.key :: x.val :: flat (toPr l)) = _
   simp [texts]
  rw [e, wt_cons]
  simp only [List.length_append, four_len]
  omega
theorem next_first : ∀ (fs : List Fl), chain fs → (∀ f ∈ fs, f.l.length ≤ 1024) → nextOf fs ≤ firstOf fs + 1024 * fs.length
 | [], _, _ => Nat.zero_le _
 | [f], _, h => by
  have := h f (by simp)
  show f.first + f.l.length ≤ f.first + 1024 * 1
  omega
 | f :: f2 :: r, hc, h => by
  have ih := next_first (f2 :: r) hc.2 (fun x hx => h x (List.mem_cons_of_mem _ hx))
  have h0 := h f (by simp)
  have e : firstOf (f2 :: r) = f.next := hc.1
  have e1 : nextOf (f :: f2 :: r) = nextOf (f2 :: r) := by simp [nextOf]
  have e0 : firstOf (f :: f2 :: r) = f.first := rfl
  have hn : f.next = f.first + f.l.length := rfl
  simp only [List.length_cons] at ih ⊢
  omega
/-! ### Records that are told -/
theorem getL_skip (x : Nat) : ∀ (a r : List Fl), (∀ f ∈ a, f.next ≤ x) → getL (a ++ r) (x : Int) = getL r (x : Int)
 | [], _, _ => rfl
 | f :: a, r, h => by
  have h1 := h f (by simp)
  rw [List.cons_append, getL, if_neg (by omega)]
  exact getL_skip x a r fun f hf => h f (by simp [hf])
theorem getL_snoc (x : Nat) (f : Fl) (h : x < f.first) : ∀ (a : List Fl), getL (a ++ [f]) (x : Int) = getL a (x : Int)
 | [] => by
  show (if (f.first : Int) ≤ x ∧ (x : Int) < (f.next : Int) then _ else getL [] (x : Int)) = _
  rw [if_neg (by omega)]
 | y :: a => by
  rw [List.cons_append, getL, getL, getL_snoc x f h a]
theorem sync_fs (g : Lg) : (syncL g).fs = onLast g.fs syncF := rfl
theorem sync_getL (g : Lg) (x : Nat) : getL (syncL g).fs (x : Int) = getL g.fs (x : Int) := by
 rcases last_cases g.fs with e | ⟨a, f, e⟩
 ·rw [sync_fs, e]; rfl
 ·rw [sync_fs, e, onLast_snoc]
  have : ∀ a : List Fl, getL (a ++ [syncF f]) (x : Int) = getL (a ++ [f]) (x : Int) := by
   intro a
   induction a with
   | nil => rfl
   | cons y a ih => simp only [List.cons_append, getL]; rw [ih]
  exact this a
theorem sync_next (g : Lg) : nextOf (syncL g).fs = nextOf g.fs := by
 rcases last_cases g.fs with e | ⟨a, f, e⟩
 ·rw [sync_fs, e]; rfl
 ·rw [sync_fs, e, onLast_snoc, nextOf_snoc, nextOf_snoc]; rfl
theorem first_last (a : List Fl) (f f' : Fl) (h : f.first = f'.first) : firstOf (a ++ [f]) = firstOf (a ++ [f']) := by
 cases a with
 | nil => exact h
 | cons y a => rfl
theorem sync_first (g : Lg) : firstOf (syncL g).fs = firstOf g.fs := by
 rcases last_cases g.fs with e | ⟨a, f, e⟩
 ·rw [sync_fs, e]; rfl
 ·rw [sync_fs, e, onLast_snoc]; exact first_last a _ _ rfl
theorem sync_sure {g : Lg} (h : SureAt g) : (syncL g).sure = nextOf g.fs := by
 simp only [syncL]
 split
 ·rename_i e
  rcases h with ⟨_, h⟩ | ⟨a, f, j, h, _⟩
  ·rw [h, e]; rfl
  ·rw [e] at h; simp at h
 ·rfl
theorem sure_next {g : Lg} (h : SureAt g) : g.sure ≤ nextOf g.fs := by
 rcases h with ⟨_, h⟩ | ⟨a, f, j, h, h1, _, h2⟩
 ·omega
 ·rw [h, nextOf_snoc, h2]; show _ ≤ f.first + f.l.length; omega
theorem app_err {g : Lg} {t : List UInt8} (h : (appL g t).2.2 ≠ 0) : (appL g t).1 = g := by
 unfold appL at h ⊢
 split
 ·rfl
 split
 ·rfl
 split
 ·rename_i h1 h2 h3; rw [if_neg h1, if_neg h2, if_pos h3] at h; exact absurd rfl h
 split
 ·rfl
 ·rename_i h1 h2 h3 h4; rw [if_neg h1, if_neg h2, if_neg h3, if_neg h4] at h; exact absurd rfl h
theorem app_told {g : Lg} {t : List UInt8} (hc : chain g.fs) (hs : SureAt g) (h : (appL g t).2.2 = 0) : nextOf (appL g t).1.fs = nextOf g.fs + 1 ∧ firstOf (appL g t).1.fs = firstOf g.fs ∧ g.sure ≤ (appL g t).1.sure ∧
 (∀ x : Nat, x < nextOf g.fs → getL (appL g t).1.fs (x : Int) = getL g.fs (x : Int)) ∧ (getL (appL g t).1.fs (nextOf g.fs : Int)).1 = t := by
 unfold appL at h ⊢
 split
 ·rename_i h1; rw [if_pos h1] at h; cases h
 split
 ·rename_i h1 h2; rw [if_neg h1, if_pos h2] at h; cases h
 split
 ·rename_i h3
  rcases last_cases g.fs with e | ⟨a, f, e⟩
  ·simp [roomB, e] at h3
  ·have hn : nextOf g.fs = f.first + f.l.length := by rw [e, nextOf_snoc]; rfl
   have hcl := chain_le a f (by rw [← e]; exact hc)
   dsimp only
   rw [hn, e, onLast_snoc, nextOf_snoc]
   refine ⟨by simp only [Fl.next, putF, List.length_append, List.length_singleton]; omega, first_last a _ _ rfl, Nat.le_refl _, ?_, ?_⟩
   ·intro x hx
    refine (getL_last f (putF f t) x rfl f.l.length hx (Nat.le_refl _) (by simp [putF]) ?_ a).symm
    simp [putF]
   ·rw [getL_skip _ a _ (fun y hy => by have := hcl y hy; omega)]
    rw [getL, if_pos (by simp only [Fl.next, putF, List.length_append, List.length_singleton]; omega)]
    rw [show (((f.first + f.l.length : Nat) : Int) - ((putF f t).first : Int)).toNat = f.l.length by simp only [putF]; omega]
    simp [putF]
 ·split
  ·rename_i h1 h2 h3 h4; rw [if_neg h1, if_neg h2, if_neg h3, if_pos h4] at h; cases h
  ·dsimp only
   rw [nextOf_snoc]
   have hnx := next_le (syncL g) (by
    rcases last_cases g.fs with e | ⟨a, f, e⟩
    ·rw [sync_fs, e]; trivial
    ·rw [sync_fs, e, onLast_snoc]; exact chain_last a f _ rfl (by rw [← e]; exact hc))
   rw [sync_next] at hnx
   refine ⟨rfl, ?_, by rw [sync_sure hs]; exact sure_next hs, ?_, ?_⟩
   ·have h5 := sync_first g
    rcases last_cases g.fs with e | ⟨a, f, e⟩
    ·rw [sync_fs, e]; rfl
    ·rw [← h5, sync_fs, e, onLast_snoc]
     cases a <;> rfl
   ·intro x hx
    rw [getL_snoc x _ hx, sync_getL]
   ·rw [getL_skip _ _ _ hnx]
    rw [getL, if_pos (by simp only [Fl.next, List.length_singleton]; omega)]
    simp
theorem rep_same {fs fs' : List Fl} {s : Nat} {base : List Kv} : ∀ {n : Nat}, (∀ x : Nat, s ≤ x → x < s + n → getL fs (x : Int) = getL fs' (x : Int)) → rep fs s base n = rep fs' s base n
 | 0, _ => rfl
 | n + 1, h => by
  show chL (rep fs s base n) _ = chL (rep fs' s base n) _
  rw [rep_same fun x h1 h2 => h x h1 (by omega), h (s + n) (by omega) (by omega)]
end Go.Proofs
/- What holds of a store, kept by all that is done to it; plain Lean. -/
set_option autoImplicit false
namespace Go.Proofs
open Go.SL Go.Proofs.Bt
structure Kst where
 g : Lg
 a : List UInt8
 b : List UInt8
 saved : Nat
 t : List Kv
def newK (z : Int) : Kst := ⟨⟨newSize z, 0, []⟩, [], [], 0, []⟩
def logK (K : Kst) (c : Chg) : Kst := if (appL K.g (chB c)).2.2 = 0 then ⟨(appL K.g (chB c)).1, K.a, K.b, K.saved, chL K.t c⟩ else K
def putOk (k v : Ky) : Bool := keyB k && decide (v.length ≤ 1024)
def putK (K : Kst) (k v : Ky) : Kst := if putOk k v = true then logK K (.put k v) else K
def putE (K : Kst) (k v : Ky) : Int := if putOk k v = true then (appL K.g (chB (.put k v))).2.2 else 1
def delK (K : Kst) (k : Ky) : Kst := if keyB k = true then if hasL K.t k = true then logK K (.del k) else K else K
def syncK (K : Kst) : Kst := ⟨syncL K.g, K.a, K.b, K.saved, K.t⟩
def crashK (K : Kst) (base : List Kv) (keep : Nat) : Kst := ⟨crashL K.g keep, K.a, K.b, K.saved, rep (crashL K.g keep).fs K.saved base (nextOf (crashL K.g keep).fs - K.saved)⟩
structure Inv (K : Kst) (base : List Kv) (n c : Nat) : Prop where
 g : Good K.g c
 sa : SureAt K.g
 tl : Tells K.a K.b (if n = 0 then [] else bodyK K.saved base) n
 z : n = 0 → K.saved = 0 ∧ base = []
 la : K.a.length ≤ 40000
 lb : K.b.length ≤ 40000
 up : Up base
 w : wt base ≤ 40000
 fi : firstOf K.g.fs ≤ K.saved
 su : K.saved ≤ K.g.sure
 tr : K.t = rep K.g.fs K.saved base (nextOf K.g.fs - K.saved)
theorem wt_len (l : List Kv) : 8 * l.length ≤ wt l := by rw [← texts_wt]; exact texts_w l
section
variable {K : Kst} {base : List Kv} {n c : Nat}
theorem Inv.mono {d : Nat} (h : Inv K base n c) (hd : c ≤ d) : Inv K base n d := ⟨h.g.mono hd, h.sa, h.tl, h.z, h.la, h.lb, h.up, h.w, h.fi, h.su, h.tr⟩
theorem inv_new (z : Int) : Inv (newK z) [] 0 0 := ⟨good_new z, sureAt_new _, tells_nil, fun _ => ⟨rfl, rfl⟩, Nat.zero_le _, Nat.zero_le _, List.Pairwise.nil, Nat.zero_le _, Nat.le_refl _, Nat.le_refl _, rfl⟩
theorem Inv.sn (h : Inv K base n c) : K.saved ≤ nextOf K.g.fs := Nat.le_trans h.su (sure_next h.sa)
theorem Inv.span (h : Inv K base n c) : nextOf K.g.fs - K.saved ≤ 16384 := by
 have h1 := next_first K.g.fs h.g.ch (fun f hf => by have := text_len f.l; have := (h.g.file f hf).1; omega)
 have h2 := h.g.few
 have h3 := h.fi
 omega
theorem Inv.len (h : Inv K base n c) : K.t.length ≤ 21384 := by
 have h1 := rep_len (fs := K.g.fs) (s := K.saved) h.up (nextOf K.g.fs - K.saved)
 rw [← h.tr] at h1
 have h2 := h.span
 have h3 := wt_len base
 have h4 := h.w
 omega
theorem Inv.told (h : Inv K base n c) (hc : c ≤ 1000000) : Told K.a K.b K.saved base := by
 obtain ⟨h1, h2⟩ := h.tl.load
 refine ⟨h.la, h.lb, ?_, ?_, h.up, by rw [texts_wt]; exact h.w⟩
 ·by_cases h0 : n = 0
  ·exact .inl ⟨by rw [h2, h0], h.z h0⟩
  ·rw [if_neg h0] at h1
   exact .inr ⟨by rw [h2]; exact h0, h1⟩
 ·have := h.su
  have := h.g.sure
  omega
theorem Inv.log {ch : Chg} (h : Inv K base n c) (hr : readC (chB ch) = ch) : Inv (logK K ch) base n (c + 1) := by
 unfold logK
 split
 ·rename_i he
  obtain ⟨t1, t2, t3, t4, t5⟩ := app_told h.g.ch h.sa he
  have hsn := h.sn
  refine ⟨h.g.app _, h.sa.app _, h.tl, h.z, h.la, h.lb, h.up, h.w, by dsimp only; rw [t2]; exact h.fi, Nat.le_trans h.su t3, ?_⟩
  dsimp only
  rw [t1, show nextOf K.g.fs + 1 - K.saved = nextOf K.g.fs - K.saved + 1 by omega]
  show _ = chL (rep _ _ _ _) _
  rw [show ((K.saved + (nextOf K.g.fs - K.saved) : Nat) : Int) = (nextOf K.g.fs : Int) by omega, t5, hr]
  rw [rep_same (fs' := K.g.fs) (fun x h1 h2 => t4 x (by omega)), ← h.tr]
 ·exact h.mono (by omega)
theorem Inv.sync (h : Inv K base n c) : Inv (syncK K) base n c := by
 refine ⟨h.g.sync, h.sa.sync h.sa, h.tl, h.z, h.la, h.lb, h.up, h.w, by show firstOf (syncL K.g).fs ≤ _; rw [sync_first]; exact h.fi, ?_, ?_⟩
 ·show K.saved ≤ (syncL K.g).sure
  rw [sync_sure h.sa]; exact h.sn
 ·show K.t = rep (syncL K.g).fs K.saved base (nextOf (syncL K.g).fs - K.saved)
  rw [sync_next, rep_same (fs' := K.g.fs) (fun x _ _ => sync_getL K.g x)]
  exact h.tr
theorem sure_crash {g : Lg} {c : Nat} (keep : Nat) (hg : Good g c) (h : SureAt g) : SureAt (crashL g keep) := by
 rcases last_cases g.fs with e | ⟨a, x, e⟩
 ·left
  rcases h with ⟨_, h⟩ | ⟨a, f, j, h, _⟩
  ·exact ⟨by simp [crashL, e, onLast], by simp [crashL, e, h]⟩
  ·rw [e] at h; simp at h
 ·right
  obtain ⟨p1, p2, p3⟩ := prefixR_text _ (tear x.d keep) (Nat.le_refl _)
  refine ⟨a, crashF x keep, (crashF x keep).l.length, by simp only [crashL]; rw [e, onLast_snoc], Nat.le_refl _, ?_, ?_⟩
  ·rw [List.take_length]
   simp only [crashF]
   rw [p1, List.length_take]; omega
  ·simp only [crashL]
   rw [if_neg (by rw [e]; simp), e, onLast_snoc, nextOf_snoc]; rfl
theorem Inv.crash (keep : Nat) (h : Inv K base n c) : Inv (crashK K base keep) base n (c + 8192) := by
 obtain ⟨c1, c2, c3, c4⟩ := crash_sure (keep := keep) h.g h.sa
 refine ⟨h.g.crash, sure_crash keep h.g h.sa, h.tl, h.z, h.la, h.lb, h.up, h.w, ?_, ?_, rfl⟩
 ·show firstOf (crashL K.g keep).fs ≤ _
  rw [c1]; exact h.fi
 ·show K.saved ≤ (crashL K.g keep).sure
  rw [c3]; exact Nat.le_trans h.su c2
end
theorem crash_sync {g : Lg} {c : Nat} (keep : Nat) (hg : Good g c) : (crashL (syncL g) keep).fs = (syncL g).fs := by
 rcases last_cases g.fs with e | ⟨a, f, e⟩
 ·simp [crashL, syncL, e, onLast]
 ·obtain ⟨a1, a2, a3, a4⟩ := hg.file f (by rw [e]; simp)
  have e1 : (syncL g).fs = a ++ [syncF f] := by rw [sync_fs, e, onLast_snoc]
  have e2 : (crashL (syncL g) keep).fs = a ++ [crashF (syncF f) keep] := by simp only [crashL]; rw [e1, onLast_snoc]
  have h1 := tear_sure (syncF f).d keep
  have h2 := tear_length (syncF f).d keep (Nat.le_refl _)
  have h3 : tear (syncF f).d keep = text f.l := by
   have hs : (syncF f).d.s = (text f.l).length := rfl
   have hb : (syncF f).d.b = text f.l := rfl
   rw [hs, hb] at h1
   rw [hs, hb] at h2
   rw [List.take_of_length_le h2.2, List.take_length] at h1
   exact h1
  have h4 := prefixR_app f.l [] a3
  rw [List.append_nil, prefixR_stop (s := []) (by decide)] at h4
  rw [e1, e2]
  have h5 : crashF (syncF f) keep = syncF f := by
   simp only [crashF, h3, h4, List.append_nil, Nat.add_zero]; rfl
  rw [h5]
theorem Inv.again {K : Kst} {base : List Kv} {n c : Nat} (keep : Nat) (h : Inv K base n c) : (crashK (syncK K) base keep).t = K.t ∧ nextOf (crashK (syncK K) base keep).g.fs = nextOf K.g.fs ∧ (crashK (syncK K) base keep).g.sure = nextOf K.g.fs := by
 have e := crash_sync keep h.g
 have hs := h.sync
 have h2 := crash_sure (keep := keep) hs.g hs.sa
 have e3 : nextOf (crashL (syncL K.g) keep).fs = nextOf K.g.fs := by rw [e, sync_next]
 refine ⟨?_, e3, ?_⟩
 ·show rep (crashL (syncL K.g) keep).fs _ _ (nextOf (crashL (syncL K.g) keep).fs - _) = _
  rw [e]; exact hs.tr.symm
 ·exact h2.2.2.1.trans e3
/-! ### Beginnings -/
def repA (all : List (List UInt8)) (i : Nat) : List Kv := (all.take i).foldl (fun t r => chL t (readC r)) []
theorem repA_succ {all : List (List UInt8)} {i : Nat} (h : i < all.length) : repA all (i + 1) = chL (repA all i) (readC all[i]) := by
 unfold repA
 rw [List.take_succ_eq_append_getElem h, List.foldl_append]; rfl
theorem repA_app {all : List (List UInt8)} {i : Nat} (x : List UInt8) (h : i ≤ all.length) : repA (all ++ [x]) i = repA all i := by
 unfold repA
 rw [List.take_append_of_le_length h]
theorem rep_repA {fs : List Fl} {all : List (List UInt8)} {s : Nat} : ∀ {n : Nat}, s + n ≤ all.length → (∀ x : Nat, s ≤ x → x < s + n → ∃ t, all[x]? = some t ∧ getL fs (x : Int) = (t, 0)) → rep fs s (repA all s) n = repA all (s + n)
 | 0, _, _ => rfl
 | n + 1, hl, h => by
  obtain ⟨t, h1, h2⟩ := h (s + n) (by omega) (by omega)
  show chL (rep fs s (repA all s) n) _ = repA all (s + n + 1)
  rw [rep_repA (by omega) (fun x h3 h4 => h x h3 (by omega)), repA_succ (show s + n < all.length by omega), h2]
  rw [List.getElem?_eq_getElem (show s + n < all.length by omega)] at h1
  cases h1; rfl
structure Beg (K : Kst) (base : List Kv) (all : List (List UInt8)) : Prop where
 bk : Back K.g all
 len : all.length = nextOf K.g.fs
 bs : base = repA all K.saved
section
variable {K : Kst} {base : List Kv} {n c : Nat} {all : List (List UInt8)}
theorem Beg.tr (hI : Inv K base n c) (h : Beg K base all) : K.t = repA all (nextOf K.g.fs) := by
 have h1 := hI.sn
 have h2 := h.len
 rw [hI.tr, h.bs, rep_repA (by omega) (fun x h3 h4 => back_get all x K.g.fs hI.g.ch h.bk.at' (Nat.le_trans hI.fi h3) (by omega))]
 congr 1
 omega
theorem Beg.sync (h : Beg K base all) : Beg (syncK K) base all := ⟨h.bk.sync, by show _ = nextOf (syncL K.g).fs; rw [sync_next]; exact h.len, h.bs⟩
theorem Beg.log {ch : Chg} (hI : Inv K base n c) (h : Beg K base all) : Beg (logK K ch) base (if (appL K.g (chB ch)).2.2 = 0 then all ++ [chB ch] else all) := by
 unfold logK
 split
 ·rename_i he
  obtain ⟨t1, t2, t3, t4, t5⟩ := app_told hI.g.ch hI.sa he
  have hb := ((h.bk).app (chB ch) hI.g.ch).2 he
  have hl := h.len
  refine ⟨?_, ?_, ?_⟩
  ·have := hb.2
   rw [← hl, List.take_length] at this
   exact this
  ·show _ = nextOf (appL K.g (chB ch)).1.fs
   rw [t1, List.length_append, hl]; rfl
  ·show base = repA (all ++ [chB ch]) K.saved
   rw [repA_app _ (by rw [hl]; exact hI.sn)]; exact h.bs
 ·exact h
theorem Beg.crash (k : Nat) (hI : Inv K base n c) (h : Beg K base all) : (crashK K base (2 ^ k - 1)).t = repA all (nextOf (crashK K base (2 ^ k - 1)).g.fs) ∧ nextOf (crashK K base (2 ^ k - 1)).g.fs ≤ nextOf K.g.fs ∧ max K.g.sure K.saved ≤ nextOf (crashK K base (2 ^ k - 1)).g.fs := by
 have hc := h.bk.crash (k := k) hI.g
 have hI2 := hI.crash (2 ^ k - 1)
 have hl := h.len
 have hle : nextOf (crashL K.g (2 ^ k - 1)).fs ≤ all.length := hc.le
 obtain ⟨c1, c2, c3, c4⟩ := crash_sure (keep := 2 ^ k - 1) hI.g hI.sa
 have hsn : K.saved ≤ nextOf (crashL K.g (2 ^ k - 1)).fs := hI2.sn
 refine ⟨?_, by show nextOf (crashL K.g (2 ^ k - 1)).fs ≤ _; omega, ?_⟩
 ·have hfi : firstOf (crashL K.g (2 ^ k - 1)).fs ≤ K.saved := hI2.fi
  have hch : chain (crashL K.g (2 ^ k - 1)).fs := hI2.g.ch
  show rep (crashL K.g (2 ^ k - 1)).fs K.saved base (nextOf (crashL K.g (2 ^ k - 1)).fs - K.saved) = repA all (nextOf (crashL K.g (2 ^ k - 1)).fs)
  rw [h.bs, rep_repA (by omega) (fun x h3 h4 => back_get all x _ hch hc.at' (Nat.le_trans hfi h3) (by omega))]
  congr 1
  omega
 ·show _ ≤ nextOf (crashL K.g (2 ^ k - 1)).fs
  have := hI.su
  omega
end
/-! ### A change's bytes are its own -/
theorem readC_put (k v : Ky) (h : k.length ≤ 1000000) (h2 : v.length ≤ 1000000) : readC (chB (.put k v)) = .put k v := by
 have hr : readT (texts [[112], k, v]) = some [[112], k, v] := kreadT _ (by
  intro s hs
  simp at hs
  rcases hs with rfl | rfl | rfl
  ·decide
  ·omega
  ·omega)
 have h1 : readE (texts [[112], k, v]) = 0 := by simp [readE, hr]
 have h2 : readL (texts [[112], k, v]) = [[112], k, v] := by simp [readL, hr]
 show readC (texts [[112], k, v]) = _
 unfold readC
 rw [h2, if_pos ⟨h1, rfl⟩]; rfl
theorem readC_del (k : Ky) (h : k.length ≤ 1000000) : readC (chB (.del k)) = .del k := by
 have hr : readT (texts [[100], k]) = some [[100], k] := kreadT _ (by
  intro s hs
  simp at hs
  rcases hs with rfl | rfl
  ·decide
  ·omega)
 have h1 : readE (texts [[100], k]) = 0 := by simp [readE, hr]
 have h2 : readL (texts [[100], k]) = [[100], k] := by simp [readL, hr]
 show readC (texts [[100], k]) = _
 unfold readC
 rw [h2, if_neg (by simp), if_pos ⟨h1, rfl⟩]; rfl
end Go.Proofs
/- A store: what is refused; a store that is none. -/
set_option autoImplicit false
namespace Go.Proofs
open Go.SL Go.Proofs.Bt
attribute [local irreducible] J JL QOp JOp seqQ blockQ loopQ retQ slc cel hex star pur stars Does RV Ent pAt scopeQ
attribute [local irreducible] nodeA nodeX treeA segA snapA
theorem kputB_ok (E : World) (p : Nat) (k v : Ky) (hk : putOk k v = false) : Does Tryz.prog E 16 [.pointer (some ⟨p, 0, none⟩), str k, str v] [] fun r L => r = .int .i64 1 ∧ L = [] := by
 have hkey := key_ok E k
 cases hb : keyB k with
 | false =>
  rw [show (decide (k ≠ []) && decide (k.length ≤ 32)) = false from hb] at hkey
  refine Does.of Tryz.func16 rfl Tryz.ntmps16 rfl rfl fun F => ?_
  refine J.norm ?_
  refine Sr ?_
  refine Lq (Q_assign rfl) ?_
  refine Ln ?_
  refine J_seq ?_
  refine Sr ?_
  refine Lq (Q_move rfl) ?_
  refine Lq ((Q_peql rfl rfl).as (v' := .bool false) rfl) ?_
  refine Lq (Q_move rfl) ?_
  refine Lq (Q_move rfl) ?_
  refine L_o rfl rfl rfl (O_call [] [0] hkey rfl rfl ?_)
  rintro _ _ ⟨rfl, rfl⟩
  refine JL.norm ?_
  refine Lq ((Q_not rfl).as (v' := .bool true) rfl) ?_
  refine Lq (Q_pickF rfl rfl) ?_
  refine Lq (Q_move rfl) ?_
  refine L_n rfl rfl rfl ?_
  refine L_n rfl rfl rfl ?_
  refine L_n rfl rfl rfl ?_
  refine Lq (Q_pickT rfl rfl) ?_
  refine Ln ?_
  refine J_condT rfl ?_
  refine Sr ?_
  refine Lq (Q_assign rfl) ?_
  refine Ln ?_
  refine J_ret ?_
  refine seqQ_ret ?_
  exact retQ_ret _ [] (.cons (RV_tmp rfl) .nil) ⟨rfl, rfl⟩ (Ent.refl _)
 | true =>
  rw [show (decide (k ≠ []) && decide (k.length ≤ 32)) = true from hb] at hkey
  have hv : ¬ v.length ≤ 1024 := by simpa [putOk, hb] using hk
  refine Does.of Tryz.func16 rfl Tryz.ntmps16 rfl rfl fun F => ?_
  refine J.norm ?_
  refine Sr ?_
  refine Lq (Q_assign rfl) ?_
  refine Ln ?_
  refine J_seq ?_
  refine Sr ?_
  refine Lq (Q_move rfl) ?_
  refine Lq ((Q_peql rfl rfl).as (v' := .bool false) rfl) ?_
  refine Lq (Q_move rfl) ?_
  refine Lq (Q_move rfl) ?_
  refine L_o rfl rfl rfl (O_call [] [0] hkey rfl rfl ?_)
  rintro _ _ ⟨rfl, rfl⟩
  refine JL.norm ?_
  refine Lq ((Q_not rfl).as (v' := .bool false) rfl) ?_
  refine Lq (Q_pickF rfl rfl) ?_
  refine Lq (Q_move rfl) ?_
  refine Lq (Q_move rfl) ?_
  refine Lq (Q_slen rfl) ?_
  refine Lq ((Q_gtr rfl rfl).as (v' := .bool true) (congrArg Value.bool (decide_eq_true (by omega)))) ?_
  refine Lq (Q_pickF rfl rfl) ?_
  refine Ln ?_
  refine J_condT rfl ?_
  refine Sr ?_
  refine Lq (Q_assign rfl) ?_
  refine Ln ?_
  refine J_ret ?_
  refine seqQ_ret ?_
  exact retQ_ret _ [] (.cons (RV_tmp rfl) .nil) ⟨rfl, rfl⟩ (Ent.refl _)
end Go.Proofs
