/- Part 23 of the texts below the row: KvJ, Kv16, KvA, Aw38, Few38, Alo50, KvS. -/
import Derived.Test.YtgifbeecmidciaaGreatM22
/- What holds of a store, kept by all that is done to it; plain Lean. -/
set_option autoImplicit false
namespace Go.Proofs
open Go.SL Go.Proofs.Bt
structure Kst where
 g : Lg
 a : List UInt8
 b : List UInt8
 saved : Nat
 t : List Kv
def newK (z : Int) : Kst := ⟨⟨newSize z, 0, []⟩, [], [], 0, []⟩
def logK (K : Kst) (c : Chg) : Kst := if (appL K.g (chB c)).2.2 = 0 then ⟨(appL K.g (chB c)).1, K.a, K.b, K.saved, chL K.t c⟩ else K
def putOk (k v : Ky) : Bool := keyB k && decide (v.length ≤ 1024)
def putK (K : Kst) (k v : Ky) : Kst := if putOk k v = true then logK K (.put k v) else K
def putE (K : Kst) (k v : Ky) : Int := if putOk k v = true then (appL K.g (chB (.put k v))).2.2 else 1
def delK (K : Kst) (k : Ky) : Kst := if keyB k = true then if hasL K.t k = true then logK K (.del k) else K else K
def delE (K : Kst) (k : Ky) : Int := if keyB k = true then if hasL K.t k = true then (appL K.g (chB (.del k))).2.2 else 9 else 1
def syncK (K : Kst) : Kst := ⟨syncL K.g, K.a, K.b, K.saved, K.t⟩
def cpW (K : Kst) (upto : Int) : List UInt8 × List UInt8 × Int := doW K.a K.b (bodyK (nextOf (syncL K.g).fs) K.t) upto
def cpK (K : Kst) (upto : Int) : Kst :=
 if (cpW K upto).2.2 = 0 ∧ loadN (cpW K upto).1 (cpW K upto).2.1 ≠ loadN K.a K.b then ⟨(dropL (syncL K.g) (nextOf (syncL K.g).fs)).1, (cpW K upto).1, (cpW K upto).2.1, nextOf (syncL K.g).fs, K.t⟩
 else ⟨syncL K.g, (cpW K upto).1, (cpW K upto).2.1, K.saved, K.t⟩
def crashK (K : Kst) (base : List Kv) (keep : Nat) : Kst := ⟨crashL K.g keep, K.a, K.b, K.saved, rep (crashL K.g keep).fs K.saved base (nextOf (crashL K.g keep).fs - K.saved)⟩
structure Inv (K : Kst) (base : List Kv) (n c : Nat) : Prop where
 g : Good K.g c
 sa : SureAt K.g
 tl : Tells K.a K.b (if n = 0 then [] else bodyK K.saved base) n
 z : n = 0 → K.saved = 0 ∧ base = []
 la : K.a.length ≤ 40000
 lb : K.b.length ≤ 40000
 up : Up base
 w : wt base ≤ 40000
 fi : firstOf K.g.fs ≤ K.saved
 su : K.saved ≤ K.g.sure
 tr : K.t = rep K.g.fs K.saved base (nextOf K.g.fs - K.saved)
theorem wt_len (l : List Kv) : 8 * l.length ≤ wt l := by rw [← texts_wt]; exact texts_w l
section
variable {K : Kst} {base : List Kv} {n c : Nat}
theorem Inv.mono {d : Nat} (h : Inv K base n c) (hd : c ≤ d) : Inv K base n d := ⟨h.g.mono hd, h.sa, h.tl, h.z, h.la, h.lb, h.up, h.w, h.fi, h.su, h.tr⟩
theorem inv_new (z : Int) : Inv (newK z) [] 0 0 := ⟨good_new z, sureAt_new _, tells_nil, fun _ => ⟨rfl, rfl⟩, Nat.zero_le _, Nat.zero_le _, List.Pairwise.nil, Nat.zero_le _, Nat.le_refl _, Nat.le_refl _, rfl⟩
theorem Inv.sn (h : Inv K base n c) : K.saved ≤ nextOf K.g.fs := Nat.le_trans h.su (sure_next h.sa)
theorem Inv.tup (h : Inv K base n c) : Up K.t := by rw [h.tr]; exact rep_up h.up _
theorem Inv.span (h : Inv K base n c) : nextOf K.g.fs - K.saved ≤ 16384 := by
 have h1 := next_first K.g.fs h.g.ch (fun f hf => by have := text_len f.l; have := (h.g.file f hf).1; omega)
 have h2 := h.g.few
 have h3 := h.fi
 omega
theorem Inv.len (h : Inv K base n c) : K.t.length ≤ 21384 := by
 have h1 := rep_len (fs := K.g.fs) (s := K.saved) h.up (nextOf K.g.fs - K.saved)
 rw [← h.tr] at h1
 have h2 := h.span
 have h3 := wt_len base
 have h4 := h.w
 omega
theorem Inv.wtt (h : Inv K base n c) : wt K.t ≤ 68000000 := by
 have h1 := rep_wt (fs := K.g.fs) (fun f hf => (h.g.file f hf).2.2.1) K.saved base (nextOf K.g.fs - K.saved)
 rw [← h.tr] at h1
 have h2 := h.span
 have h4 := h.w
 omega
theorem Inv.told (h : Inv K base n c) (hc : c ≤ 1000000) : Told K.a K.b K.saved base := by
 obtain ⟨h1, h2⟩ := h.tl.load
 refine ⟨h.la, h.lb, ?_, ?_, h.up, by rw [texts_wt]; exact h.w⟩
 ·by_cases h0 : n = 0
  ·exact .inl ⟨by rw [h2, h0], h.z h0⟩
  ·rw [if_neg h0] at h1
   exact .inr ⟨by rw [h2]; exact h0, h1⟩
 ·have := h.su
  have := h.g.sure
  omega
theorem Inv.log {ch : Chg} (h : Inv K base n c) (hr : readC (chB ch) = ch) : Inv (logK K ch) base n (c + 1) := by
 unfold logK
 split
 ·rename_i he
  obtain ⟨t1, t2, t3, t4, t5⟩ := app_told h.g.ch h.sa he
  have hsn := h.sn
  refine ⟨h.g.app _, h.sa.app _, h.tl, h.z, h.la, h.lb, h.up, h.w, by dsimp only; rw [t2]; exact h.fi, Nat.le_trans h.su t3, ?_⟩
  dsimp only
  rw [t1, show nextOf K.g.fs + 1 - K.saved = nextOf K.g.fs - K.saved + 1 by omega]
  show _ = chL (rep _ _ _ _) _
  rw [show ((K.saved + (nextOf K.g.fs - K.saved) : Nat) : Int) = (nextOf K.g.fs : Int) by omega, t5, hr]
  rw [rep_same (fs' := K.g.fs) (fun x h1 h2 => t4 x (by omega)), ← h.tr]
 ·exact h.mono (by omega)
theorem Inv.sync (h : Inv K base n c) : Inv (syncK K) base n c := by
 refine ⟨h.g.sync, h.sa.sync h.sa, h.tl, h.z, h.la, h.lb, h.up, h.w, by show firstOf (syncL K.g).fs ≤ _; rw [sync_first]; exact h.fi, ?_, ?_⟩
 ·show K.saved ≤ (syncL K.g).sure
  rw [sync_sure h.sa]; exact h.sn
 ·show K.t = rep (syncL K.g).fs K.saved base (nextOf (syncL K.g).fs - K.saved)
  rw [sync_next, rep_same (fs' := K.g.fs) (fun x _ _ => sync_getL K.g x)]
  exact h.tr
theorem Inv.cp (upto : Int) (h : Inv K base n c) (hn : n < 1000) : ∃ (base' : List Kv) (n' : Nat), Inv (cpK K upto) base' n' c ∧ n' ≤ n + 1 ∧ ((base' = base ∧ (cpK K upto).saved = K.saved) ∨ (base' = K.t ∧ (cpK K upto).saved = nextOf K.g.fs)) ∧ (cpK K upto).t = K.t ∧ nextOf (cpK K upto).g.fs = nextOf K.g.fs := by
 have hs := h.sync
 have hl := doW_len (body := bodyK (nextOf (syncL K.g).fs) K.t) (upto := upto) h.la h.lb
 have off : ∀ w : List UInt8 × List UInt8 × Int, w.1.length ≤ 40000 ∧ w.2.1.length ≤ 40000 → Tells w.1 w.2.1 (if n = 0 then [] else bodyK K.saved base) n → Inv ⟨syncL K.g, w.1, w.2.1, K.saved, K.t⟩ base n c :=
  fun w hw ht => ⟨hs.g, hs.sa, ht, h.z, hw.1, hw.2, h.up, h.w, hs.fi, hs.su, hs.tr⟩
 unfold cpK cpW
 by_cases hb : (bodyK (nextOf (syncL K.g).fs) K.t).length ≤ 32768
 ·have he := doW_ok (a := K.a) (b := K.b) (upto := upto) hb
  by_cases hw : wholeN (bodyK (nextOf (syncL K.g).fs) K.t) upto
  ·have ht := write_whole h.tl hn hb hw
   rw [if_pos ⟨he, by rw [ht.load.2, h.tl.load.2]; omega⟩]
   refine ⟨K.t, n + 1, ⟨hs.g.drop _, hs.sa.drop _, by rw [if_neg (by omega)]; exact ht, fun h0 => by omega, hl.1, hl.2, h.tup, ?_, ?_, ?_, ?_⟩, Nat.le_refl _, .inr ⟨rfl, sync_next _⟩, rfl, ?_⟩
   ·have : (bodyK (nextOf (syncL K.g).fs) K.t).length = 4 + wt K.t := by rw [← texts_wt]; simp [bodyK, four_len]
    omega
   ·have hd := drop_first (syncL K.g).fs (nextOf (syncL K.g).fs : Int) hs.g.ch
    have h1 := hs.fi
    have h2 := hs.sn
    show firstOf ((syncL K.g).fs.drop _) ≤ nextOf (syncL K.g).fs
    have h3 : firstOf (syncL K.g).fs ≤ K.saved := h1
    have h4 : K.saved ≤ nextOf (syncL K.g).fs := h2
    rcases hd.2 with hd | hd <;> omega
   ·show nextOf (syncL K.g).fs ≤ (syncL K.g).sure
    rw [sync_sure h.sa, sync_next]
    exact Nat.le_refl _
   ·show K.t = rep _ _ _ (nextOf ((syncL K.g).fs.drop _) - nextOf (syncL K.g).fs)
    rw [drop_next, Nat.sub_self]; rfl
   ·show nextOf ((syncL K.g).fs.drop _) = _
    rw [drop_next, sync_next]
  ·have ht := write_cut h.tl hb hw
   rw [if_neg (fun hx => hx.2 (by rw [ht.load.2, h.tl.load.2]))]
   exact ⟨base, n, off _ hl ht, by omega, .inl ⟨rfl, rfl⟩, rfl, sync_next _⟩
 ·have he := doW_err (a := K.a) (b := K.b) (upto := upto) (Nat.lt_of_not_le hb)
  rw [he] at hl ⊢
  rw [if_neg (fun hx => by have := hx.1; cases this)]
  exact ⟨base, n, off (K.a, K.b, 2) hl h.tl, by omega, .inl ⟨rfl, rfl⟩, rfl, sync_next _⟩
theorem sure_crash {g : Lg} {c : Nat} (keep : Nat) (hg : Good g c) (h : SureAt g) : SureAt (crashL g keep) := by
 rcases last_cases g.fs with e | ⟨a, x, e⟩
 ·left
  rcases h with ⟨_, h⟩ | ⟨a, f, j, h, _⟩
  ·exact ⟨by simp [crashL, e, onLast], by simp [crashL, e, h]⟩
  ·rw [e] at h; simp at h
 ·right
  obtain ⟨p1, p2, p3⟩ := prefixR_text _ (tear x.d keep) (Nat.le_refl _)
  refine ⟨a, crashF x keep, (crashF x keep).l.length, by simp only [crashL]; rw [e, onLast_snoc], Nat.le_refl _, ?_, ?_⟩
  ·rw [List.take_length]
   simp only [crashF]
   rw [p1, List.length_take]; omega
  ·simp only [crashL]
   rw [if_neg (by rw [e]; simp), e, onLast_snoc, nextOf_snoc]; rfl
theorem Inv.crash (keep : Nat) (h : Inv K base n c) : Inv (crashK K base keep) base n (c + 8192) := by
 obtain ⟨c1, c2, c3, c4⟩ := crash_sure (keep := keep) h.g h.sa
 refine ⟨h.g.crash, sure_crash keep h.g h.sa, h.tl, h.z, h.la, h.lb, h.up, h.w, ?_, ?_, rfl⟩
 ·show firstOf (crashL K.g keep).fs ≤ _
  rw [c1]; exact h.fi
 ·show K.saved ≤ (crashL K.g keep).sure
  rw [c3]; exact Nat.le_trans h.su c2
end
theorem crash_sync {g : Lg} {c : Nat} (keep : Nat) (hg : Good g c) : (crashL (syncL g) keep).fs = (syncL g).fs := by
 rcases last_cases g.fs with e | ⟨a, f, e⟩
 ·simp [crashL, syncL, e, onLast]
 ·obtain ⟨a1, a2, a3, a4⟩ := hg.file f (by rw [e]; simp)
  have e1 : (syncL g).fs = a ++ [syncF f] := by rw [sync_fs, e, onLast_snoc]
  have e2 : (crashL (syncL g) keep).fs = a ++ [crashF (syncF f) keep] := by simp only [crashL]; rw [e1, onLast_snoc]
  have h1 := tear_sure (syncF f).d keep
  have h2 := tear_length (syncF f).d keep (Nat.le_refl _)
  have h3 : tear (syncF f).d keep = text f.l := by
   have hs : (syncF f).d.s = (text f.l).length := rfl
   have hb : (syncF f).d.b = text f.l := rfl
   rw [hs, hb] at h1
   rw [hs, hb] at h2
   rw [List.take_of_length_le h2.2, List.take_length] at h1
   exact h1
  have h4 := prefixR_app f.l [] a3
  rw [List.append_nil, prefixR_stop (s := []) (by decide)] at h4
  rw [e1, e2]
  have h5 : crashF (syncF f) keep = syncF f := by
   simp only [crashF, h3, h4, List.append_nil, Nat.add_zero]; rfl
  rw [h5]
theorem Inv.again {K : Kst} {base : List Kv} {n c : Nat} (keep : Nat) (h : Inv K base n c) : (crashK (syncK K) base keep).t = K.t ∧ nextOf (crashK (syncK K) base keep).g.fs = nextOf K.g.fs ∧ (crashK (syncK K) base keep).g.sure = nextOf K.g.fs := by
 have e := crash_sync keep h.g
 have hs := h.sync
 have h2 := crash_sure (keep := keep) hs.g hs.sa
 have e3 : nextOf (crashL (syncL K.g) keep).fs = nextOf K.g.fs := by rw [e, sync_next]
 refine ⟨?_, e3, ?_⟩
 ·show rep (crashL (syncL K.g) keep).fs _ _ (nextOf (crashL (syncL K.g) keep).fs - _) = _
  rw [e]; exact hs.tr.symm
 ·exact h2.2.2.1.trans e3
/-! ### Beginnings -/
def repA (all : List (List UInt8)) (i : Nat) : List Kv := (all.take i).foldl (fun t r => chL t (readC r)) []
theorem repA_succ {all : List (List UInt8)} {i : Nat} (h : i < all.length) : repA all (i + 1) = chL (repA all i) (readC all[i]) := by
 unfold repA
 rw [List.take_succ_eq_append_getElem h, List.foldl_append]; rfl
theorem repA_app {all : List (List UInt8)} {i : Nat} (x : List UInt8) (h : i ≤ all.length) : repA (all ++ [x]) i = repA all i := by
 unfold repA
 rw [List.take_append_of_le_length h]
theorem rep_repA {fs : List Fl} {all : List (List UInt8)} {s : Nat} : ∀ {n : Nat}, s + n ≤ all.length → (∀ x : Nat, s ≤ x → x < s + n → ∃ t, all[x]? = some t ∧ getL fs (x : Int) = (t, 0)) → rep fs s (repA all s) n = repA all (s + n)
 | 0, _, _ => rfl
 | n + 1, hl, h => by
  obtain ⟨t, h1, h2⟩ := h (s + n) (by omega) (by omega)
  show chL (rep fs s (repA all s) n) _ = repA all (s + n + 1)
  rw [rep_repA (by omega) (fun x h3 h4 => h x h3 (by omega)), repA_succ (show s + n < all.length by omega), h2]
  rw [List.getElem?_eq_getElem (show s + n < all.length by omega)] at h1
  cases h1; rfl
structure Beg (K : Kst) (base : List Kv) (all : List (List UInt8)) : Prop where
 bk : Back K.g all
 len : all.length = nextOf K.g.fs
 bs : base = repA all K.saved
section
variable {K : Kst} {base : List Kv} {n c : Nat} {all : List (List UInt8)}
theorem Beg.tr (hI : Inv K base n c) (h : Beg K base all) : K.t = repA all (nextOf K.g.fs) := by
 have h1 := hI.sn
 have h2 := h.len
 rw [hI.tr, h.bs, rep_repA (by omega) (fun x h3 h4 => back_get all x K.g.fs hI.g.ch h.bk.at' (Nat.le_trans hI.fi h3) (by omega))]
 congr 1
 omega
theorem Beg.sync (h : Beg K base all) : Beg (syncK K) base all := ⟨h.bk.sync, by show _ = nextOf (syncL K.g).fs; rw [sync_next]; exact h.len, h.bs⟩
theorem Beg.log {ch : Chg} (hI : Inv K base n c) (h : Beg K base all) : Beg (logK K ch) base (if (appL K.g (chB ch)).2.2 = 0 then all ++ [chB ch] else all) := by
 unfold logK
 split
 ·rename_i he
  obtain ⟨t1, t2, t3, t4, t5⟩ := app_told hI.g.ch hI.sa he
  have hb := ((h.bk).app (chB ch) hI.g.ch).2 he
  have hl := h.len
  refine ⟨?_, ?_, ?_⟩
  ·have := hb.2
   rw [← hl, List.take_length] at this
   exact this
  ·show _ = nextOf (appL K.g (chB ch)).1.fs
   rw [t1, List.length_append, hl]; rfl
  ·show base = repA (all ++ [chB ch]) K.saved
   rw [repA_app _ (by rw [hl]; exact hI.sn)]; exact h.bs
 ·exact h
theorem Beg.cp (upto : Int) (hI : Inv K base n c) (h : Beg K base all) {base' : List Kv} (hb : (base' = base ∧ (cpK K upto).saved = K.saved) ∨ (base' = K.t ∧ (cpK K upto).saved = nextOf K.g.fs)) (hn : nextOf (cpK K upto).g.fs = nextOf K.g.fs) : Beg (cpK K upto) base' all := by
 refine ⟨?_, by rw [hn]; exact h.len, ?_⟩
 ·unfold cpK
  split
  ·exact h.bk.sync.drop _
  ·exact h.bk.sync
 ·rcases hb with ⟨rfl, e⟩ | ⟨rfl, e⟩
  ·rw [e]; exact h.bs
  ·rw [e]; exact h.tr hI
theorem Beg.crash (k : Nat) (hI : Inv K base n c) (h : Beg K base all) : (crashK K base (2 ^ k - 1)).t = repA all (nextOf (crashK K base (2 ^ k - 1)).g.fs) ∧ nextOf (crashK K base (2 ^ k - 1)).g.fs ≤ nextOf K.g.fs ∧ max K.g.sure K.saved ≤ nextOf (crashK K base (2 ^ k - 1)).g.fs := by
 have hc := h.bk.crash (k := k) hI.g
 have hI2 := hI.crash (2 ^ k - 1)
 have hl := h.len
 have hle : nextOf (crashL K.g (2 ^ k - 1)).fs ≤ all.length := hc.le
 obtain ⟨c1, c2, c3, c4⟩ := crash_sure (keep := 2 ^ k - 1) hI.g hI.sa
 have hsn : K.saved ≤ nextOf (crashL K.g (2 ^ k - 1)).fs := hI2.sn
 refine ⟨?_, by show nextOf (crashL K.g (2 ^ k - 1)).fs ≤ _; omega, ?_⟩
 ·have hfi : firstOf (crashL K.g (2 ^ k - 1)).fs ≤ K.saved := hI2.fi
  have hch : chain (crashL K.g (2 ^ k - 1)).fs := hI2.g.ch
  show rep (crashL K.g (2 ^ k - 1)).fs K.saved base (nextOf (crashL K.g (2 ^ k - 1)).fs - K.saved) = repA all (nextOf (crashL K.g (2 ^ k - 1)).fs)
  rw [h.bs, rep_repA (by omega) (fun x h3 h4 => back_get all x _ hch hc.at' (Nat.le_trans hfi h3) (by omega))]
  congr 1
  omega
 ·show _ ≤ nextOf (crashL K.g (2 ^ k - 1)).fs
  have := hI.su
  omega
end
/-! ### A change's bytes are its own -/
theorem readC_put (k v : Ky) (h : k.length ≤ 1000000) (h2 : v.length ≤ 1000000) : readC (chB (.put k v)) = .put k v := by
 have hr : readT (texts [[112], k, v]) = some [[112], k, v] := kreadT _ (by
  intro s hs
  simp at hs
  rcases hs with rfl | rfl | rfl
  ·decide
  ·omega
  ·omega)
 have h1 : readE (texts [[112], k, v]) = 0 := by simp [readE, hr]
 have h2 : readL (texts [[112], k, v]) = [[112], k, v] := by simp [readL, hr]
 show readC (texts [[112], k, v]) = _
 unfold readC
 rw [h2, if_pos ⟨h1, rfl⟩]; rfl
theorem readC_del (k : Ky) (h : k.length ≤ 1000000) : readC (chB (.del k)) = .del k := by
 have hr : readT (texts [[100], k]) = some [[100], k] := kreadT _ (by
  intro s hs
  simp at hs
  rcases hs with rfl | rfl
  ·decide
  ·omega)
 have h1 : readE (texts [[100], k]) = 0 := by simp [readE, hr]
 have h2 : readL (texts [[100], k]) = [[100], k] := by simp [readL, hr]
 show readC (texts [[100], k]) = _
 unfold readC
 rw [h2, if_neg (by simp), if_pos ⟨h1, rfl⟩]; rfl
end Go.Proofs
/- A store: what is refused; a store that is none. -/
set_option autoImplicit false
namespace Go.Proofs
open Go.SL Go.Proofs.Bt
attribute [local irreducible] J JL QOp JOp seqQ blockQ loopQ retQ slc cel hex star pur stars Does RV Ent pAt scopeQ
attribute [local irreducible] nodeA nodeX treeA segA snapA
theorem kputB_ok (E : World) (p : Nat) (k v : Ky) (hk : putOk k v = false) : Does Tryz.prog E 16 [.pointer (some ⟨p, 0, none⟩), str k, str v] [] fun r L => r = .int .i64 1 ∧ L = [] := by
 have hkey := key_ok E k
 cases hb : keyB k with
 | false =>
  rw [show (decide (k ≠ []) && decide (k.length ≤ 32)) = false from hb] at hkey
  refine Does.of Tryz.func16 rfl Tryz.ntmps16 rfl rfl fun F => ?_
  refine J.norm ?_
  refine Sr ?_
  refine Lq (Q_assign rfl) ?_
  refine Ln ?_
  refine J_seq ?_
  refine Sr ?_
  refine Lq (Q_move rfl) ?_
  refine Lq ((Q_peql rfl rfl).as (v' := .bool false) rfl) ?_
  refine Lq (Q_move rfl) ?_
  refine Lq (Q_move rfl) ?_
  refine L_o rfl rfl rfl (O_call [] [0] hkey rfl rfl ?_)
  rintro _ _ ⟨rfl, rfl⟩
  refine JL.norm ?_
  refine Lq ((Q_not rfl).as (v' := .bool true) rfl) ?_
  refine Lq (Q_pickF rfl rfl) ?_
  refine Lq (Q_move rfl) ?_
  refine L_n rfl rfl rfl ?_
  refine L_n rfl rfl rfl ?_
  refine L_n rfl rfl rfl ?_
  refine Lq (Q_pickT rfl rfl) ?_
  refine Ln ?_
  refine J_condT rfl ?_
  refine Sr ?_
  refine Lq (Q_assign rfl) ?_
  refine Ln ?_
  refine J_ret ?_
  refine seqQ_ret ?_
  exact retQ_ret _ [] (.cons (RV_tmp rfl) .nil) ⟨rfl, rfl⟩ (Ent.refl _)
 | true =>
  rw [show (decide (k ≠ []) && decide (k.length ≤ 32)) = true from hb] at hkey
  have hv : ¬ v.length ≤ 1024 := by simpa [putOk, hb] using hk
  refine Does.of Tryz.func16 rfl Tryz.ntmps16 rfl rfl fun F => ?_
  refine J.norm ?_
  refine Sr ?_
  refine Lq (Q_assign rfl) ?_
  refine Ln ?_
  refine J_seq ?_
  refine Sr ?_
  refine Lq (Q_move rfl) ?_
  refine Lq ((Q_peql rfl rfl).as (v' := .bool false) rfl) ?_
  refine Lq (Q_move rfl) ?_
  refine Lq (Q_move rfl) ?_
  refine L_o rfl rfl rfl (O_call [] [0] hkey rfl rfl ?_)
  rintro _ _ ⟨rfl, rfl⟩
  refine JL.norm ?_
  refine Lq ((Q_not rfl).as (v' := .bool false) rfl) ?_
  refine Lq (Q_pickF rfl rfl) ?_
  refine Lq (Q_move rfl) ?_
  refine Lq (Q_move rfl) ?_
  refine Lq (Q_slen rfl) ?_
  refine Lq ((Q_gtr rfl rfl).as (v' := .bool true) (congrArg Value.bool (decide_eq_true (by omega)))) ?_
  refine Lq (Q_pickF rfl rfl) ?_
  refine Ln ?_
  refine J_condT rfl ?_
  refine Sr ?_
  refine Lq (Q_assign rfl) ?_
  refine Ln ?_
  refine J_ret ?_
  refine seqQ_ret ?_
  exact retQ_ret _ [] (.cons (RV_tmp rfl) .nil) ⟨rfl, rfl⟩ (Ent.refl _)
theorem kdelB_ok (E : World) (p : Nat) (k : Ky) (hb : keyB k = false) : Does Tryz.prog E 17 [.pointer (some ⟨p, 0, none⟩), str k] [] fun r L => r = .int .i64 1 ∧ L = [] := by
 have hkey := key_ok E k
 rw [show (decide (k ≠ []) && decide (k.length ≤ 32)) = false from hb] at hkey
 refine Does.of Tryz.func17 rfl Tryz.ntmps17 rfl rfl fun F => ?_
 refine J.norm ?_
 refine Sr ?_
 refine Lq (Q_assign rfl) ?_
 refine Ln ?_
 refine J_seq ?_
 refine Sr ?_
 refine Lq (Q_move rfl) ?_
 refine Lq ((Q_peql rfl rfl).as (v' := .bool false) rfl) ?_
 refine Lq (Q_move rfl) ?_
 refine Lq (Q_move rfl) ?_
 refine L_o rfl rfl rfl (O_call [] [0] hkey rfl rfl ?_)
 rintro _ _ ⟨rfl, rfl⟩
 refine JL.norm ?_
 refine Lq ((Q_not rfl).as (v' := .bool true) rfl) ?_
 refine Lq (Q_pickF rfl rfl) ?_
 refine Ln ?_
 refine J_condT rfl ?_
 refine Sr ?_
 refine Lq (Q_assign rfl) ?_
 refine Ln ?_
 refine J_ret ?_
 refine seqQ_ret ?_
 exact retQ_ret _ [] (.cons (RV_tmp rfl) .nil) ⟨rfl, rfl⟩ (Ent.refl _)
theorem kdelM_ok (E : World) (p pt pl ps : Nat) (saved : Int) (l : List Kv) (k : Ky) (hb : keyB k = true) (hh : hasL l k = false) : Does Tryz.prog E 17 [.pointer (some ⟨p, 0, none⟩), str k] [kvC p pt pl ps saved, treeA pt l] fun r L => r = .int .i64 9 ∧ L = [kvC p pt pl ps saved, treeA pt l] := by
 have hkey := key_ok E k
 rw [show (decide (k ≠ []) && decide (k.length ≤ 32)) = true from hb] at hkey
 have hget := tget_ok E pt l k
 rw [hh] at hget
 refine Does.of Tryz.func17 rfl Tryz.ntmps17 rfl rfl fun F => ?_
 refine J.norm ?_
 refine Sr ?_
 refine Lq (Q_assign rfl) ?_
 refine Ln ?_
 refine J_seq ?_
 refine Sr ?_
 refine Lq (Q_move rfl) ?_
 refine Lq ((Q_peql rfl rfl).as (v' := .bool false) rfl) ?_
 refine Lq (Q_move rfl) ?_
 refine Lq (Q_move rfl) ?_
 refine L_o rfl rfl rfl (O_call [] [0,1,2] hkey rfl rfl ?_)
 rintro _ _ ⟨rfl, rfl⟩
 refine JL.norm ?_
 refine Lq ((Q_not rfl).as (v' := .bool false) rfl) ?_
 refine Lq (Q_pickF rfl rfl) ?_
 refine Ln ?_
 refine J_condF rfl ?_
 refine J_skip ?_
 refine seqQ_normal ?_
 refine J_seq ?_
 refine Sr ?_
 refine Lq (Q_move rfl) ?_
 refine Lq (Q_nilCheck rfl) ?_
 refine Lq (Q_fa0 rfl) ?_
 refine Lq (Q_ld 0 rfl rfl rfl rfl) ?_
 refine Lq (Q_move rfl) ?_
 refine L_o rfl rfl rfl (O_call [1] [0,2] hget rfl rfl ?_)
 rintro _ _ ⟨rfl, rfl⟩
 refine JL.norm ?_
 refine Lq (Q_move rfl) ?_
 refine Lq (Q_extract (v := str (Bt.getL l k)) rfl rfl) ?_
 refine Lq (Q_extract (v := .bool false) rfl rfl) ?_
 refine Lq (Q_assign rfl) ?_
 refine Lq (Q_assign rfl) ?_
 refine Ln ?_
 refine Sr ?_
 refine Lq (Q_move rfl) ?_
 refine Lq ((Q_not rfl).as (v' := .bool true) rfl) ?_
 refine Ln ?_
 refine J_condT rfl ?_
 refine Sr ?_
 refine Lq (Q_assign rfl) ?_
 refine Ln ?_
 refine J_ret ?_
 refine seqQ_ret ?_
 exact retQ_ret _ [kvC p pt pl ps saved, treeA pt l] (.cons (RV_tmp rfl) .nil) ⟨rfl, rfl⟩ (Ent.re [1,0,2] rfl)
end Go.Proofs
/- A store as one chunk, and what is done to it. -/
set_option autoImplicit false
namespace Go.Proofs
open Go.SL Go.Proofs.Bt
def kvL (p : Nat) (K : Kst) (q : Nat × Nat × Nat) : List HProp := [kvC p q.1 q.2.1 q.2.2 (K.saved : Int), treeA q.1 K.t, segA q.2.1 K.g, snapA q.2.2 K.a K.b]
def kvA (p : Nat) (K : Kst) : HProp := hex fun q : Nat × Nat × Nat => stars (kvL p K q)
theorem Ent.kv {p pt pl ps : Nat} {K : Kst} {L : List HProp} : Ent (kvC p pt pl ps (K.saved : Int) :: treeA pt K.t :: segA pl K.g :: snapA ps K.a K.b :: L) (kvA p K :: L) := fun E w h => by
 have h1 := Sat.rot (A := kvL p K (pt, pl, ps)) (B := L) h
 have h4 : Sat E w (stars (kvL p K (pt, pl, ps)) :: L) := Sat.rot (A := L) h1.fold
 exact h4.mkex (f := fun q : Nat × Nat × Nat => stars (kvL p K q)) (pt, pl, ps)
theorem Does.kv {P : Program} {E : World} {f : Nat} {args : List Value} {p : Nat} {K : Kst} {L : List HProp} {Q : Value → List HProp → Prop} (h : ∀ pt pl ps : Nat, Does P E f args (kvC p pt pl ps (K.saved : Int) :: treeA pt K.t :: segA pl K.g :: snapA ps K.a K.b :: L) Q) : Does P E f args (kvA p K :: L) Q := fun F w hs => by
 obtain ⟨q, hq⟩ := Sat.ex (f := fun q : Nat × Nat × Nat => stars (kvL p K q)) (R := L ++ [F]) hs
 exact h q.1 q.2.1 q.2.2 F w (Sat.rot (A := L ++ [F]) (hq.rot (A := [_]) (B := L ++ [F])).unfold)
theorem putOk_t {k v : Ky} (h : putOk k v = true) : keyB k = true ∧ v.length ≤ 1024 := by simpa [putOk] using h
theorem logK_eq {K : Kst} {c : Chg} : logK K c = ⟨(appL K.g (chB c)).1, K.a, K.b, K.saved, if (appL K.g (chB c)).2.2 = 0 then chL K.t c else K.t⟩ := by
 unfold logK
 split
 ·rfl
 ·rename_i h; rw [app_err h]
theorem Inv.put {K : Kst} {base : List Kv} {n c : Nat} (k v : Ky) (h : Inv K base n c) : Inv (putK K k v) base n (c + 1) := by
 unfold putK
 split
 ·rename_i hp
  obtain ⟨h1, h2⟩ := putOk_t hp
  exact h.log (readC_put k v (by have := keyB_len h1; omega) (by omega))
 ·exact h.mono (by omega)
theorem Inv.del {K : Kst} {base : List Kv} {n c : Nat} (k : Ky) (h : Inv K base n c) : Inv (delK K k) base n (c + 1) := by
 unfold delK
 split
 ·rename_i hp
  split
  ·exact h.log (readC_del k (by have := keyB_len hp; omega))
  ·exact h.mono (by omega)
 ·exact h.mono (by omega)
attribute [local irreducible] J JL QOp JOp seqQ blockQ loopQ retQ slc cel hex star pur stars Does RV Ent pAt scopeQ
attribute [local irreducible] nodeA nodeX treeA segA snapA
section
variable (E : World) (p : Nat) {K : Kst} {base : List Kv} {n c : Nat}
theorem anew_ok (z : Int) : Does Tryz.prog E 15 [.int .i64 z] [] fun v L => ∃ p : Nat, v = .pointer (some ⟨p, 0, none⟩) ∧ L = [kvA p (newK z)] := by
 refine Does.post (knew_ok E z) (fun F => Ent.refl _) ?_
 rintro v L ⟨p, pt, pl, ps, hv, rfl⟩
 exact ⟨_, ⟨p, hv, rfl⟩, fun F => Ent.kv (K := newK z)⟩
theorem aput_ok (hI : Inv K base n c) (hc : c ≤ 1000000) (k v : Ky) : Does Tryz.prog E 16 [.pointer (some ⟨p, 0, none⟩), str k, str v] [kvA p K] fun r L => r = .int .i64 (putE K k v) ∧ L = [kvA p (putK K k v)] := by
 have hlen := hI.len
 cases hp : putOk k v with
 | false =>
  have e1 : putE K k v = 1 := by unfold putE; rw [hp]; rfl
  have e2 : putK K k v = K := by unfold putK; rw [hp]; rfl
  rw [e1, e2]
  refine Does.post (Does.frame (R := [kvA p K]) (kputB_ok E p k v hp)) (fun F => Ent.refl _) ?_
  rintro r _ ⟨_, ⟨hv, rfl⟩, rfl⟩
  exact ⟨_, ⟨hv, rfl⟩, fun F => Ent.refl _⟩
 | true =>
  obtain ⟨h1, h2⟩ := putOk_t hp
  have e1 : putE K k v = (appL K.g (chB (.put k v))).2.2 := by unfold putE; rw [if_pos hp]
  have e2 : putK K k v = logK K (.put k v) := by unfold putK; rw [if_pos hp]
  rw [e1, e2]
  refine Does.kv fun pt pl ps => ?_
  refine Does.post (Does.frame (R := [snapA ps K.a K.b]) (kput_ok E p pt pl ps c (K.saved : Int) K.g K.t k v hI.g hc (by omega) h1 h2)) (fun F => Ent.refl _) ?_
  rintro r _ ⟨_, ⟨hv, rfl⟩, rfl⟩
  refine ⟨_, ⟨hv, rfl⟩, fun F => ?_⟩
  rw [logK_eq]
  exact Ent.kv (K := ⟨(appL K.g (chB (.put k v))).1, K.a, K.b, K.saved, if (appL K.g (chB (.put k v))).2.2 = 0 then chL K.t (.put k v) else K.t⟩)
theorem adel_ok (hI : Inv K base n c) (hc : c ≤ 1000000) (k : Ky) : Does Tryz.prog E 17 [.pointer (some ⟨p, 0, none⟩), str k] [kvA p K] fun r L => r = .int .i64 (delE K k) ∧ L = [kvA p (delK K k)] := by
 have hlen := hI.len
 cases hp : keyB k with
 | false =>
  have e1 : delE K k = 1 := by unfold delE; rw [hp]; rfl
  have e2 : delK K k = K := by unfold delK; rw [hp]; rfl
  rw [e1, e2]
  refine Does.post (Does.frame (R := [kvA p K]) (kdelB_ok E p k hp)) (fun F => Ent.refl _) ?_
  rintro r _ ⟨_, ⟨hv, rfl⟩, rfl⟩
  exact ⟨_, ⟨hv, rfl⟩, fun F => Ent.refl _⟩
 | true =>
  cases hh : hasL K.t k with
  | false =>
   have e1 : delE K k = 9 := by unfold delE; rw [hp, hh]; rfl
   have e2 : delK K k = K := by unfold delK; rw [hp, hh]; rfl
   rw [e1, e2]
   refine Does.kv fun pt pl ps => ?_
   refine Does.post (Does.frame (R := [segA pl K.g, snapA ps K.a K.b]) (kdelM_ok E p pt pl ps (K.saved : Int) K.t k hp hh)) (fun F => Ent.refl _) ?_
   rintro r _ ⟨_, ⟨hv, rfl⟩, rfl⟩
   exact ⟨_, ⟨hv, rfl⟩, fun F => Ent.kv⟩
  | true =>
   have e1 : delE K k = (appL K.g (chB (.del k))).2.2 := by unfold delE; rw [if_pos hp, if_pos hh]
   have e2 : delK K k = logK K (.del k) := by unfold delK; rw [if_pos hp, if_pos hh]
   rw [e1, e2]
   refine Does.kv fun pt pl ps => ?_
   refine Does.post (Does.frame (R := [snapA ps K.a K.b]) (kdel_ok E p pt pl ps c (K.saved : Int) K.g K.t k hI.g hc (by omega) hp hh)) (fun F => Ent.refl _) ?_
   rintro r _ ⟨_, ⟨hv, rfl⟩, rfl⟩
   refine ⟨_, ⟨hv, rfl⟩, fun F => ?_⟩
   rw [logK_eq]
   exact Ent.kv (K := ⟨(appL K.g (chB (.del k))).1, K.a, K.b, K.saved, if (appL K.g (chB (.del k))).2.2 = 0 then chL K.t (.del k) else K.t⟩)
theorem aget_ok (k : Ky) : Does Tryz.prog E 26 [.pointer (some ⟨p, 0, none⟩), str k] [kvA p K] fun r L => r = .tuple #[str (Bt.getL K.t k), .int .i64 (if hasL K.t k = true then 0 else 9)] ∧ L = [kvA p K] := by
 refine Does.kv fun pt pl ps => ?_
 refine Does.post (Does.frame (R := [segA pl K.g, snapA ps K.a K.b]) (kget_ok E p pt pl ps (K.saved : Int) K.t k)) (fun F => Ent.refl _) ?_
 rintro r _ ⟨_, ⟨hv, rfl⟩, rfl⟩
 exact ⟨_, ⟨hv, rfl⟩, fun F => Ent.kv⟩
theorem arange_ok (hI : Inv K base n c) (f to : Ky) (most : Int) : Does Tryz.prog E 23 [.pointer (some ⟨p, 0, none⟩), str f, str to, .int .i64 most] [kvA p K] fun r L => ∃ S : SV, r = S.v ∧ L = [kvA p K, slc tKv true S (rngL K.t f to most)] := by
 have hlen := hI.len
 refine Does.kv fun pt pl ps => ?_
 refine Does.post (Does.frame (R := [segA pl K.g, snapA ps K.a K.b]) (krange_ok E p pt pl ps (K.saved : Int) K.t f to most (by omega))) (fun F => Ent.refl _) ?_
 rintro r _ ⟨_, ⟨S, hv, rfl⟩, rfl⟩
 exact ⟨_, ⟨S, hv, rfl⟩, fun F => (Ent.pick [0,1,3,4,2,5] [kvC p pt pl ps (K.saved : Int), treeA pt K.t, slc tKv true S (rngL K.t f to most), segA pl K.g, snapA ps K.a K.b, F] rfl).trans Ent.kv⟩
theorem aseq_ok (hI : Inv K base n c) (hc : c ≤ 1000000) : Does Tryz.prog E 21 [.pointer (some ⟨p, 0, none⟩)] [kvA p K] fun r L => r = .int .i64 (nextOf K.g.fs : Int) ∧ L = [kvA p K] := by
 refine Does.kv fun pt pl ps => ?_
 refine Does.post (Does.frame (R := [treeA pt K.t, snapA ps K.a K.b]) (kseq_ok E p pt pl ps c (K.saved : Int) K.g hI.g hc)) (fun F => Ent.pick [0,2,1,3,4] [kvC p pt pl ps (K.saved : Int), treeA pt K.t, segA pl K.g, snapA ps K.a K.b, F] rfl) ?_
 rintro r _ ⟨_, ⟨hv, rfl⟩, rfl⟩
 exact ⟨_, ⟨hv, rfl⟩, fun F => (Ent.pick [0,2,1,3,4] [kvC p pt pl ps (K.saved : Int), segA pl K.g, treeA pt K.t, snapA ps K.a K.b, F] rfl).trans Ent.kv⟩
theorem async_ok (hI : Inv K base n c) (hc : c ≤ 1000000) : Does Tryz.prog E 19 [.pointer (some ⟨p, 0, none⟩)] [kvA p K] fun r L => r = .tuple #[] ∧ L = [kvA p (syncK K)] := by
 refine Does.kv fun pt pl ps => ?_
 refine Does.post (Does.frame (R := [treeA pt K.t, snapA ps K.a K.b]) (ksync_ok E p pt pl ps c (K.saved : Int) K.g hI.g hc)) (fun F => Ent.pick [0,2,1,3,4] [kvC p pt pl ps (K.saved : Int), treeA pt K.t, segA pl K.g, snapA ps K.a K.b, F] rfl) ?_
 rintro r _ ⟨_, ⟨hv, rfl⟩, rfl⟩
 exact ⟨_, ⟨hv, rfl⟩, fun F => (Ent.pick [0,2,1,3,4] [kvC p pt pl ps (K.saved : Int), segA pl (syncL K.g), treeA pt K.t, snapA ps K.a K.b, F] rfl).trans (Ent.kv (K := syncK K))⟩
theorem acp_ok (hI : Inv K base n c) (hc : c ≤ 1000000) (upto : Int) : Does Tryz.prog E 18 [.pointer (some ⟨p, 0, none⟩), .int .i64 upto] [kvA p K] fun r L => r = .int .i64 (cpE K.g K.t K.a K.b upto) ∧ L = [kvA p (cpK K upto)] := by
 have hlen := hI.len
 have hw := hI.wtt
 refine Does.kv fun pt pl ps => ?_
 refine Does.post (kcp_ok E p pt pl ps c (K.saved : Int) K.g K.t K.a K.b upto hI.g hc (by omega) (by rw [texts_wt]; omega) hI.la hI.lb) (fun F => Ent.refl _) ?_
 rintro r _ ⟨hv, rfl⟩
 refine ⟨_, ⟨hv, rfl⟩, fun F => ?_⟩
 unfold cpK cpS cpW
 dsimp only
 split
 ·exact Ent.kv (K := ⟨(dropL (syncL K.g) (nextOf (syncL K.g).fs)).1, (doW K.a K.b (bodyK (nextOf (syncL K.g).fs) K.t) upto).1, (doW K.a K.b (bodyK (nextOf (syncL K.g).fs) K.t) upto).2.1, nextOf (syncL K.g).fs, K.t⟩)
 ·exact Ent.kv (K := ⟨syncL K.g, (doW K.a K.b (bodyK (nextOf (syncL K.g).fs) K.t) upto).1, (doW K.a K.b (bodyK (nextOf (syncL K.g).fs) K.t) upto).2.1, K.saved, K.t⟩)
theorem acrash_ok (hI : Inv K base n c) (hc : c ≤ 800000) (keep : Nat) (hk : keep < 2 ^ 64) : Does Tryz.prog E 20 [.pointer (some ⟨p, 0, none⟩), .int .u64 (keep : Int)] [kvA p K] fun r L => r = .tuple #[] ∧ L = [kvA p (crashK K base keep)] := by
 have h2 := hI.crash keep
 refine Does.kv fun pt pl ps => ?_
 refine Does.post (kcrash_ok E p pt pl ps c (K.saved : Int) K.g K.t K.a K.b K.saved keep base hI.g hc (hI.told (by omega)) hk h2.fi h2.sn) (fun F => Ent.refl _) ?_
 rintro r _ ⟨q, hv, rfl⟩
 exact ⟨_, ⟨hv, rfl⟩, fun F => Ent.kv (K := crashK K base keep)⟩
end
end Go.Proofs
/- Chapter 38's example. -/
set_option autoImplicit false
namespace Go.Proofs
open Go.SL Go.Proofs.Bt
attribute [local irreducible] J JL QOp JOp seqQ blockQ loopQ retQ slc cel hex star pur stars Does RV Ent pAt scopeQ
attribute [local irreducible] nodeA nodeX treeA segA snapA kvA
end Go.Proofs
/- Deeds on a store: how they lie in cells; are they few? A store that is none; pairs the same. -/
set_option autoImplicit false
namespace Go.Proofs
open Go.SL Go.Proofs.Bt
structure Dv where
 kind : Int
 n : Int
 key : Ky
 val : Ky
 keep : Nat
abbrev dvV (d : Dv) : List Value := [.int .i64 d.kind, .int .i64 d.n, str d.key, str d.val, .int .u64 (d.keep : Int)]
def tDv : Ty Dv := ⟨47, 5, dvV, fun _ => rfl, by decide, fun a v hv => by simp [dvV] at hv; rcases hv with rfl | rfl | rfl | rfl | rfl <;> rfl⟩
instance : TyI Tryz.prog tDv.e 5 (.agg #[.int .i64 0, .int .i64 0, .string ⟨#[]⟩, .string ⟨#[]⟩, .int .u64 0]) 56 := inferInstanceAs (TyI Tryz.prog 47 5 (.agg #[.int .i64 0, .int .i64 0, .string ⟨#[]⟩, .string ⟨#[]⟩, .int .u64 0]) 56)
instance : TyU Tryz.prog 40 (.slice tDv.e) := inferInstanceAs (TyU Tryz.prog 40 (.slice 47))
def fewV (l : List Dv) : Bool := decide (l.length ≤ 60) && l.all fun d => decide (d.key.length ≤ 1000) && decide (d.val.length ≤ 2000)
def fewW (l : List Dv) : Int := if fewV l = true then 1 else 0
theorem fewW_f {l : List Dv} (h : fewV l = false) : fewW l = 0 := by unfold fewW; rw [h]; rfl
theorem fewW_t {l : List Dv} (h : fewV l = true) : fewW l = 1 := by unfold fewW; rw [h]; rfl
theorem fewV_text {l : List Dv} (h : fewV l = true) : l.length ≤ 60 ∧ ∀ d ∈ l, d.key.length ≤ 1000 ∧ d.val.length ≤ 2000 := by
 simpa [fewV] using h
attribute [local irreducible] J JL QOp JOp seqQ blockQ loopQ retQ slc cel hex star pur stars Does RV Ent pAt scopeQ
attribute [local irreducible] nodeA nodeX treeA segA snapA kvA
theorem fewV_ok (E : World) (S : SV) (l : List Dv) : Does Tryz.prog E 14 [S.v] [slc tDv false S l] fun v L => v = .int .i64 (fewW l) ∧ L = [slc tDv false S l] := by
 refine Does.of Tryz.func14 rfl Tryz.ntmps14 rfl rfl fun F => ?_
 refine J.norm ?_
 refine Sr ?_
 refine Lq (Q_assign rfl) ?_
 refine Ln ?_
 refine J_seq ?_
 refine Sr ?_
 refine Lq (Q_move rfl) ?_
 refine Lq (Q_lenAt 0 rfl rfl) ?_
 refine Lq (Q_gtr rfl rfl) ?_
 refine Ln ?_
 refine J_condD rfl (fun h => ?_) (fun h => ?_)
 ·refine Sr ?_
  refine Lq (Q_assign rfl) ?_
  refine Ln ?_
  refine J_ret ?_
  refine seqQ_ret ?_
  exact retQ_ret _ [slc tDv false S l] (.cons (RV_tmp rfl) .nil) ⟨by rw [fewW_f (by simp [fewV]; omega)]; rfl, rfl⟩ (Ent.refl _)
 ·refine J_skip ?_
  refine seqQ_normal ?_
  refine J_seq ?_
  refine Sr ?_
  refine Lq (Q_assign rfl) ?_
  refine Ln ?_
  refine J_block ?_
  refine J_loop (fun k => k ≤ l.length ∧ ∀ a ∈ l.take k, a.key.length ≤ 1000 ∧ a.val.length ≤ 2000) (fun k => [(0, S.v), (3, .int .i64 (k : Int))]) (fun _ => [slc tDv false S l, F]) (fun k => l.length - k) 0 ⟨by simp, by simp⟩ ⟨rfl, rfl, trivial⟩ (Ent.refl _) ?_
  rintro k ⟨hk, ha⟩
  refine J_seq ?_
  refine Sr ?_
  refine Lq (Q_move rfl) ?_
  refine Lq (Q_move rfl) ?_
  refine Lq (Q_lenAt 0 rfl rfl) ?_
  refine Lq (Q_lss rfl rfl) ?_
  refine Ln ?_
  refine J_condD rfl (fun h2 => ?_) (fun h2 => ?_)
  ·have hlt : k < l.length := by omega
   have hno : ¬ (l[k].key.length ≤ 1000 ∧ l[k].val.length ≤ 2000) → fewV l = false := fun hn => by
    cases hf : fewV l with
    | false => rfl
    | true => exact absurd ((fewV_text hf).2 l[k] (List.getElem_mem hlt)) hn
   by_cases c1 : l[k].key.length ≤ 1000
   ·by_cases c2 : l[k].val.length ≤ 2000
    ·refine J_skip ?_
     refine seqQ_normal ?_
     refine J_seq ?_
     refine J_block ?_
     refine Sr ?_
     refine Lq (Q_move rfl) ?_
     refine Lq (Q_move rfl) ?_
     refine Lq (Q_ixAt 0 k rfl rfl rfl rfl hlt rfl) ?_
     refine Lq (Q_pfa rfl) ?_
     refine Lq (Q_ldEAt 0 k 2 (v := str l[k].key) rfl rfl rfl rfl hlt (by decide) rfl) ?_
     refine Lq (Q_slen rfl) ?_
     refine Lq ((Q_gtr rfl rfl).as (v' := .bool false) (congrArg Value.bool (decide_eq_false (by omega)))) ?_
     refine Lq (Q_move rfl) ?_
     refine Lq (Q_move rfl) ?_
     refine Lq (Q_move rfl) ?_
     refine Lq (Q_ixAt 0 k rfl rfl rfl rfl hlt rfl) ?_
     refine Lq (Q_pfa rfl) ?_
     refine Lq (Q_ldEAt 0 k 3 (v := str l[k].val) rfl rfl rfl rfl hlt (by decide) rfl) ?_
     refine Lq (Q_slen rfl) ?_
     refine Lq ((Q_gtr rfl rfl).as (v' := .bool false) (congrArg Value.bool (decide_eq_false (by omega)))) ?_
     refine Lq (Q_pickF rfl rfl) ?_
     refine Ln ?_
     refine J_condF rfl ?_
     refine J_skip ?_
     refine blockQ_normal ?_
     refine seqQ_normal ?_
     refine J_region ?_
     refine Lq (Q_move rfl) ?_
     refine Lq (Q_add rfl rfl (by first | exact IntWalk.i64_in _ (by omega) | exact IntWalk.u8_in _ (by omega) | exact IntWalk.u32_in _ (by omega) | exact IntWalk.u64_in _ (by omega) | rfl)) ?_
     refine Lq (Q_assign rfl) ?_
     refine JL_nil ?_
     refine loopQ_normal (k + 1) ⟨hlt, ?_⟩ (by omega) ⟨rfl, rfl, trivial⟩ (Ent.refl _)
     intro a h5
     rw [List.take_succ_eq_append_getElem hlt, List.mem_append, List.mem_singleton] at h5
     rcases h5 with h5 | rfl
     ·exact ha a h5
     ·exact ⟨c1, c2⟩
    ·refine J_skip ?_
     refine seqQ_normal ?_
     refine J_seq ?_
     refine J_block ?_
     refine Sr ?_
     refine Lq (Q_move rfl) ?_
     refine Lq (Q_move rfl) ?_
     refine Lq (Q_ixAt 0 k rfl rfl rfl rfl hlt rfl) ?_
     refine Lq (Q_pfa rfl) ?_
     refine Lq (Q_ldEAt 0 k 2 (v := str l[k].key) rfl rfl rfl rfl hlt (by decide) rfl) ?_
     refine Lq (Q_slen rfl) ?_
     refine Lq ((Q_gtr rfl rfl).as (v' := .bool false) (congrArg Value.bool (decide_eq_false (by omega)))) ?_
     refine Lq (Q_move rfl) ?_
     refine Lq (Q_move rfl) ?_
     refine Lq (Q_move rfl) ?_
     refine Lq (Q_ixAt 0 k rfl rfl rfl rfl hlt rfl) ?_
     refine Lq (Q_pfa rfl) ?_
     refine Lq (Q_ldEAt 0 k 3 (v := str l[k].val) rfl rfl rfl rfl hlt (by decide) rfl) ?_
     refine Lq (Q_slen rfl) ?_
     refine Lq ((Q_gtr rfl rfl).as (v' := .bool true) (congrArg Value.bool (decide_eq_true (by omega)))) ?_
     refine Lq (Q_pickF rfl rfl) ?_
     refine Ln ?_
     refine J_condT rfl ?_
     refine Sr ?_
     refine Lq (Q_assign rfl) ?_
     refine Ln ?_
     refine J_ret ?_
     refine blockQ_ret ?_
     refine seqQ_ret ?_
     refine loopQ_ret ?_
     refine blockQ_ret ?_
     refine seqQ_ret ?_
     exact retQ_ret _ [slc tDv false S l] (.cons (RV_tmp rfl) .nil) ⟨by rw [fewW_f (hno (fun h => c2 h.2))]; rfl, rfl⟩ (Ent.refl _)
   ·refine J_skip ?_
    refine seqQ_normal ?_
    refine J_seq ?_
    refine J_block ?_
    refine Sr ?_
    refine Lq (Q_move rfl) ?_
    refine Lq (Q_move rfl) ?_
    refine Lq (Q_ixAt 0 k rfl rfl rfl rfl hlt rfl) ?_
    refine Lq (Q_pfa rfl) ?_
    refine Lq (Q_ldEAt 0 k 2 (v := str l[k].key) rfl rfl rfl rfl hlt (by decide) rfl) ?_
    refine Lq (Q_slen rfl) ?_
    refine Lq ((Q_gtr rfl rfl).as (v' := .bool true) (congrArg Value.bool (decide_eq_true (by omega)))) ?_
    refine Lq (Q_move rfl) ?_
    refine L_n rfl rfl rfl ?_
    refine L_n rfl rfl rfl ?_
    refine L_n rfl rfl rfl ?_
    refine L_n rfl rfl rfl ?_
    refine L_n rfl rfl rfl ?_
    refine L_n rfl rfl rfl ?_
    refine L_n rfl rfl rfl ?_
    refine Lq (Q_pickT rfl rfl) ?_
    refine Ln ?_
    refine J_condT rfl ?_
    refine Sr ?_
    refine Lq (Q_assign rfl) ?_
    refine Ln ?_
    refine J_ret ?_
    refine blockQ_ret ?_
    refine seqQ_ret ?_
    refine loopQ_ret ?_
    refine blockQ_ret ?_
    refine seqQ_ret ?_
    exact retQ_ret _ [slc tDv false S l] (.cons (RV_tmp rfl) .nil) ⟨by rw [fewW_f (hno (fun h => c1 h.1))]; rfl, rfl⟩ (Ent.refl _)
  ·obtain rfl : k = l.length := by omega
   rw [List.take_length] at ha
   have e : fewV l = true := by simp [fewV]; exact ⟨by omega, fun a h => ha a h⟩
   refine J_exit ?_
   refine seqQ_exit ?_
   refine loopQ_exit ?_
   refine blockQ_hit ?_
   refine seqQ_normal ?_
   refine Sr ?_
   refine Lq (Q_assign rfl) ?_
   refine Ln ?_
   refine J_ret ?_
   exact retQ_ret _ [slc tDv false S l] (.cons (RV_tmp rfl) .nil) ⟨by rw [fewW_t e]; rfl, rfl⟩ (Ent.refl _)
theorem Rdy.slc {E : World} {S : SV} {l : List Kv} : Rdy E (slc tKv true S l) S l := fun _ _ hs => hs.rd 0 rfl
theorem rsame38_ok (E : World) (C : HProp) (S T : SV) (l : List Kv) (hS : Rdy E C S l) (hl : l.length ≤ 100000) : Does Tryz.prog E 22 [T.v, S.v] [slc tKv true T l, C] fun v L => v = .bool true ∧ L = [slc tKv true T l, C] := by
 refine Does.post (rsame_ok E (star C (slc tKv true T l)) T S l Rdy.new hS.old hl) (fun F => (show Ent [slc tKv true T l, C, F] [star C (slc tKv true T l), F] from (Ent.re [1,0,2] rfl).trans Ent.star_in)) ?_
 rintro v L ⟨hv, rfl⟩
 exact ⟨_, ⟨hv, rfl⟩, fun F => (show Ent [star C (slc tKv true T l), F] [slc tKv true T l, C, F] from Ent.star_out.trans (Ent.re [1,0,2] rfl))⟩
end Go.Proofs
/- A chain of one node decides what it wants; a follower has it; a store keeps it. -/
set_option autoImplicit false
namespace Go.Proofs
open Go.SL Go.Proofs.Bt
abbrev vA : Ky := [118]
def wayA : Nat → List (Nat × Wd)
 | 0 => [(0, prop0 vA)]
 | 1 => [(0, prop0 vA), (0, vote0 2 vA)]
 | 2 => [(0, prop0 vA), (0, vote0 2 vA), (0, vote0 3 vA)]
 | _ => [(0, prop0 vA), (0, vote0 2 vA), (0, vote0 3 vA), (1, prop0 none0)]
def agAt : Nat → Ag
 | 0 => ag1 0 vA
 | 1 => agA 0 vA
 | 2 => agB 0 vA
 | _ => ag1 1 none0
def vtAt : Nat → List Wd
 | 2 => [vote0 2 vA]
 | _ => []
def lgAt (i : Nat) : List Ky := if i < 3 then [] else [vA]
def wtAt (i : Nat) : List Ky := if i < 3 then [vA] else []
structure Ax where
 i : Nat
 T : SV
 pa : Nat
 pv : Nat
 Sl : SV
 Sw : SV
def hd0 : Nat → Bool := fun _ => false
def tl0 : Nat → Hg := fun _ => ⟨none, [], false⟩
def tlF (m : Nat) : Nat → Hg := updG tl0 0 (addG (tl0 0) m vA 1)
theorem tlF_0 (m : Nat) : tlF m 0 = ⟨some (m, [(vA, 1)]), vA, true⟩ := rfl
theorem tlF_s (m i : Nat) : (tlF m (i + 1)).told = false := rfl
theorem tlF_log {m k : Nat} (hk : k ≤ 64) (h1 : ∀ h, h < k → (tlF m h).told = true) (h2 : k = 64 ∨ (tlF m k).told = false) : k = 1 := by
 rcases Nat.lt_or_ge 1 k with h | h
 ·have := h1 1 h; rw [tlF_s] at this; cases this
 ·rcases Nat.eq_zero_or_pos k with e | e
  ·subst e
   rcases h2 with h2 | h2
   ·omega
   ·rw [tlF_0] at h2; cases h2
  ·omega
theorem kal_t (keep : Nat) : (crashK (syncK (putK (newK 200) [118] [120])) [] keep).t = [⟨[118], [120]⟩] := by
 have := (inv_new 200).put [118] [120]
 have h := (this.again keep).1
 rw [h]; rfl
attribute [local irreducible] J JL QOp JOp seqQ blockQ loopQ retQ slc cel hex star pur stars Does RV Ent pAt scopeQ
attribute [local irreducible] nodeA nodeX treeA segA snapA kvA votA agL zer63 bz122 foL folM mapC bz78 fol0
theorem alone_ok (E : World) : Does Tryz.prog E 5 [] [] fun v L => v = .bool true ∧ L = [] := by
 have i0 := inv_new 200
 have i1 := i0.put [118] [120]
 have i2 := i1.sync
 have i3 := i2.crash 0
 have hmv : mayV vA = true := rfl
 have hk1 := fun p => aput_ok E p i0 (by decide) [118] [120]
 have hk2 := fun p => async_ok E p i1 (by decide)
 have hk3 := fun p => acrash_ok E p i2 (by decide) 0 (by decide)
 have hk4 := fun p => aget_ok E p (K := crashK (syncK (putK (newK 200) [118] [120])) [] 0) [118]
 rw [kal_t] at hk4
 generalize crashK (syncK (putK (newK 200) [118] [120])) [] 0 = K3 at *
 generalize hK2 : syncK (putK (newK 200) [118] [120]) = K2 at *
 generalize hK1 : putK (newK 200) [118] [120] = K1 at *
 refine Does.of Tryz.func5 rfl Tryz.ntmps5 rfl rfl fun F => ?_
 refine J.norm ?_
 refine Sr ?_
 refine Lq (Q_assign rfl) ?_
 refine Ln ?_
 refine Sr ?_
 refine L_o rfl rfl rfl (O_call [] [0] (cnew_ok E) rfl rfl ?_)
 rintro _ _ ⟨p, rfl, rfl⟩
 refine JL.norm ?_
 refine Lq (Q_assign rfl) ?_
 refine Ln ?_
 refine Sr ?_
 refine L_o rfl rfl rfl (O_call [] [0,1,2,3] (fnew_ok E 0) rfl rfl ?_)
 rintro _ _ ⟨pf, rfl, rfl⟩
 refine JL.norm ?_
 refine L_o rfl rfl rfl (O_call [] [0,1,2,3,4,5] (anew_ok E 200) rfl rfl ?_)
 rintro _ _ ⟨pk, rfl, rfl⟩
 refine JL.norm ?_
 refine Lq (Q_assign rfl) ?_
 refine Lq (Q_assign rfl) ?_
 refine Ln ?_
 refine J_seq ?_
 refine J_seq ?_
 generalize hK0 : newK 200 = K0 at *
 refine J_region ?_
 refine Lq (Q_move rfl) ?_
 refine Lq ((Q_peql rfl rfl).as (v' := .bool false) rfl) ?_
 refine Lq (Q_move rfl) ?_
 refine Lq (Q_move rfl) ?_
 refine Lq ((Q_peql rfl rfl).as (v' := .bool false) rfl) ?_
 refine Lq (Q_pickF rfl rfl) ?_
 refine Lq (Q_move rfl) ?_
 refine Lq (Q_move rfl) ?_
 refine Lq ((Q_peql rfl rfl).as (v' := .bool false) rfl) ?_
 refine Lq (Q_pickF rfl rfl) ?_
 refine Lq (Q_move rfl) ?_
 refine Lq (Q_move rfl) ?_
 refine L_o rfl rfl rfl (O_call [3,5] [0,1,2,4,6] (cwant_ok E p SV.nil [] false (.pointer none) SV.nil.v vA hmv (by decide)) rfl rfl ?_)
 rintro _ _ ⟨Sw0, rfl, rfl⟩
 refine JL.norm ?_
 refine Lq ((Q_neq rfl rfl).as (v' := .bool false) rfl) ?_
 refine Lq (Q_pickF rfl rfl) ?_
 refine Ln ?_
 refine J_condF rfl ?_
 refine J_skip ?_
 refine seqQ_normal ?_
 refine Sr ?_
 refine Lq (Q_move rfl) ?_
 refine L_o rfl rfl rfl (O_call [0,5,1] [2,3,4,6] (cstart_ok E p SV.nil Sw0 [] [vA] (.pointer none) (by decide) (by intro v hv; simp at hv; subst hv; exact hmv) (by decide)) rfl rfl ?_)
 rintro _ _ ⟨pa0, pv0, T0, rfl, rfl⟩
 refine JL.norm ?_
 refine Lq (Q_assign rfl) ?_
 refine Ln ?_
 refine J_seq ?_
 refine Sr ?_
 refine Lq (Q_assign rfl) ?_
 refine Ln ?_
 refine J_block ?_
 refine J.cutB (fun e ρ' L' => e = .normal ∧ ∃ (pa pv : Nat) (Sl Sw : SV), envSub [(1, .pointer (some ⟨p, 0, none⟩)), (2, .pointer (some ⟨pf, 0, none⟩)), (3, .pointer (some ⟨pk, 0, none⟩))] ρ' ∧ Ent L' [chC p true (.pointer (some ⟨pa, 0, none⟩)) Sl.v Sw.v, slc tS true Sl [vA], kvA pk K0, folC pf 0 hd0 tl0, folM tl0, F]) ?_ ?_
 ·refine J_loop (fun x : Ax => x.i ≤ 3) (fun x => [(1, .pointer (some ⟨p, 0, none⟩)), (2, .pointer (some ⟨pf, 0, none⟩)), (3, .pointer (some ⟨pk, 0, none⟩)), (4, x.T.v), (5, .int .i64 (x.i : Int))]) (fun x => [chC p true (.pointer (some ⟨x.pa, 0, none⟩)) x.Sl.v x.Sw.v, slc tS true x.Sl (lgAt x.i), slc tS true x.Sw (wtAt x.i), agC x.pa (agAt x.i) x.pv .nilFunc, votA x.pv (vtAt x.i), slc tTa true x.T (wayA x.i), kvA pk K0, folC pf 0 hd0 tl0, folM tl0, F]) (fun x => 3 - x.i) ⟨0, T0, pa0, pv0, SV.nil, Sw0⟩ (Nat.zero_le _) ⟨rfl, rfl, rfl, rfl, rfl, trivial⟩ (Ent.refl _) ?_
  rintro ⟨i, T, pa, pv, Sl, Sw⟩ hi
  dsimp only at hi ⊢
  match i, hi with
  | 0, _ =>
   show J _ _ _ _ _ _ [chC p true (.pointer (some ⟨pa, 0, none⟩)) Sl.v Sw.v, slc tS true Sl [], slc tS true Sw [vA], agC pa (ag1 0 vA) pv .nilFunc, votA pv [], slc tTa true T [(0, prop0 vA)], kvA pk K0, folC pf 0 hd0 tl0, folM tl0, F]
   refine J_seq ?_
   refine Sr ?_
   refine Lq (Q_move rfl) ?_
   refine Lq (Q_move rfl) ?_
   refine Lq (Q_lenAt 5 rfl rfl) ?_
   refine Lq ((Q_lss rfl rfl).as (v' := .bool true) rfl) ?_
   refine Lq (Q_move rfl) ?_
   refine Lq (Q_move rfl) ?_
   refine Lq ((Q_lss rfl rfl).as (v' := .bool true) rfl) ?_
   refine Lq (Q_pickT rfl rfl) ?_
   refine Ln ?_
   refine J_condT rfl ?_
   refine J_skip ?_
   refine seqQ_normal ?_
   refine J_seq ?_
   refine J_block ?_
   refine J_region ?_
   refine Lq (Q_move rfl) ?_
   refine Lq (Q_move rfl) ?_
   refine Lq (Q_move rfl) ?_
   refine Lq (Q_move rfl) ?_
   refine Lq (Q_ixAt 5 0 rfl rfl rfl rfl (by decide) rfl) ?_
   refine Lq (Q_ldEAAt 5 0 0 (vs := tlV (0, prop0 vA)) rfl rfl rfl rfl (by decide) (by decide) rfl) ?_
   refine L_o rfl rfl rfl (O_call [0,1,3,4] [2,5,6,7,8,9] (ctakeF_ok E p pa pv Sl Sw [] (prop0 vA) (ag1 0 vA) (agA 0 vA) [] [] [vote0 2 vA] (by decide) (by decide) (by decide) (tk1_ok E pa pv 0 vA hmv (by decide)) rfl) rfl rfl ?_)
   rintro _ _ ⟨T2, rfl, rfl⟩
   refine JL.norm ?_
   refine L_o rfl rfl rfl (O_app (τ := tTa) 6 rfl (fun w h => h.rd 4 rfl) rfl rfl rfl rfl (by decide) (by decide) (fun T3 => ?_))
   refine JL.norm ?_
   refine Lq (Q_assign rfl) ?_
   refine JL_nil ?_
   refine blockQ_normal ?_
   refine seqQ_normal ?_
   refine J_region ?_
   refine Lq (Q_move rfl) ?_
   refine Lq (Q_add rfl rfl (by first | exact IntWalk.i64_in _ (by omega) | exact IntWalk.u8_in _ (by omega) | exact IntWalk.u32_in _ (by omega) | exact IntWalk.u64_in _ (by omega) | rfl)) ?_
   refine Lq (Q_assign rfl) ?_
   refine JL_nil ?_
   exact loopQ_normal ⟨1, T3, pa, pv, Sl, Sw⟩ (show 1 ≤ 3 by decide) (by show 3 - 1 < 3 - 0; decide) ⟨rfl, rfl, rfl, rfl, rfl, trivial⟩ (Ent.pick [0,1,5,2,3,6,7,8,9,10] _ rfl)
  | 1, _ =>
   show J _ _ _ _ _ _ [chC p true (.pointer (some ⟨pa, 0, none⟩)) Sl.v Sw.v, slc tS true Sl [], slc tS true Sw [vA], agC pa (agA 0 vA) pv .nilFunc, votA pv [], slc tTa true T [(0, prop0 vA), (0, vote0 2 vA)], kvA pk K0, folC pf 0 hd0 tl0, folM tl0, F]
   refine J_seq ?_
   refine Sr ?_
   refine Lq (Q_move rfl) ?_
   refine Lq (Q_move rfl) ?_
   refine Lq (Q_lenAt 5 rfl rfl) ?_
   refine Lq ((Q_lss rfl rfl).as (v' := .bool true) rfl) ?_
   refine Lq (Q_move rfl) ?_
   refine Lq (Q_move rfl) ?_
   refine Lq ((Q_lss rfl rfl).as (v' := .bool true) rfl) ?_
   refine Lq (Q_pickT rfl rfl) ?_
   refine Ln ?_
   refine J_condT rfl ?_
   refine J_skip ?_
   refine seqQ_normal ?_
   refine J_seq ?_
   refine J_block ?_
   refine J_region ?_
   refine Lq (Q_move rfl) ?_
   refine Lq (Q_move rfl) ?_
   refine Lq (Q_move rfl) ?_
   refine Lq (Q_move rfl) ?_
   refine Lq (Q_ixAt 5 1 rfl rfl rfl rfl (by decide) rfl) ?_
   refine Lq (Q_ldEAAt 5 1 0 (vs := tlV (0, vote0 2 vA)) rfl rfl rfl rfl (by decide) (by decide) rfl) ?_
   refine L_o rfl rfl rfl (O_call [0,1,3,4] [2,5,6,7,8,9] (ctakeF_ok E p pa pv Sl Sw [] (vote0 2 vA) (agA 0 vA) (agB 0 vA) [] [vote0 2 vA] [vote0 3 vA] (by decide) (by decide) (by decide) (tk2_ok E pa pv 0 vA hmv) rfl) rfl rfl ?_)
   rintro _ _ ⟨T2, rfl, rfl⟩
   refine JL.norm ?_
   refine L_o rfl rfl rfl (O_app (τ := tTa) 6 rfl (fun w h => h.rd 4 rfl) rfl rfl rfl rfl (by decide) (by decide) (fun T3 => ?_))
   refine JL.norm ?_
   refine Lq (Q_assign rfl) ?_
   refine JL_nil ?_
   refine blockQ_normal ?_
   refine seqQ_normal ?_
   refine J_region ?_
   refine Lq (Q_move rfl) ?_
   refine Lq (Q_add rfl rfl (by first | exact IntWalk.i64_in _ (by omega) | exact IntWalk.u8_in _ (by omega) | exact IntWalk.u32_in _ (by omega) | exact IntWalk.u64_in _ (by omega) | rfl)) ?_
   refine Lq (Q_assign rfl) ?_
   refine JL_nil ?_
   exact loopQ_normal ⟨2, T3, pa, pv, Sl, Sw⟩ (show 2 ≤ 3 by decide) (by show 3 - 2 < 3 - 1; decide) ⟨rfl, rfl, rfl, rfl, rfl, trivial⟩ (Ent.pick [0,1,5,2,3,6,7,8,9,10] _ rfl)
  | 2, _ =>
   show J _ _ _ _ _ _ [chC p true (.pointer (some ⟨pa, 0, none⟩)) Sl.v Sw.v, slc tS true Sl [], slc tS true Sw [vA], agC pa (agB 0 vA) pv .nilFunc, votA pv [vote0 2 vA], slc tTa true T [(0, prop0 vA), (0, vote0 2 vA), (0, vote0 3 vA)], kvA pk K0, folC pf 0 hd0 tl0, folM tl0, F]
   refine J_seq ?_
   refine Sr ?_
   refine Lq (Q_move rfl) ?_
   refine Lq (Q_move rfl) ?_
   refine Lq (Q_lenAt 5 rfl rfl) ?_
   refine Lq ((Q_lss rfl rfl).as (v' := .bool true) rfl) ?_
   refine Lq (Q_move rfl) ?_
   refine Lq (Q_move rfl) ?_
   refine Lq ((Q_lss rfl rfl).as (v' := .bool true) rfl) ?_
   refine Lq (Q_pickT rfl rfl) ?_
   refine Ln ?_
   refine J_condT rfl ?_
   refine J_skip ?_
   refine seqQ_normal ?_
   refine J_seq ?_
   refine J_block ?_
   refine J_region ?_
   refine Lq (Q_move rfl) ?_
   refine Lq (Q_move rfl) ?_
   refine Lq (Q_move rfl) ?_
   refine Lq (Q_move rfl) ?_
   refine Lq (Q_ixAt 5 2 rfl rfl rfl rfl (by decide) rfl) ?_
   refine Lq (Q_ldEAAt 5 2 0 (vs := tlV (0, vote0 3 vA)) rfl rfl rfl rfl (by decide) (by decide) rfl) ?_
   refine L_o rfl rfl rfl (O_call [0,1,3,4,2] [5,6,7,8,9] (ctakeT_ok E p pa pv Sl Sw [] [vA] (vote0 3 vA) (agB 0 vA) (agD 0 vA) [vote0 2 vA] [vote0 2 vA, vote0 3 vA] [] vA (by decide) (by decide) (by decide) (by intro v hv; simp at hv; subst hv; exact hmv) (by decide) (tk3_ok E pa pv 0 vA hmv) rfl rfl) rfl rfl ?_)
   rintro _ _ ⟨pa', pv', Tl, Tw, T2, rfl, rfl⟩
   refine JL.norm ?_
   refine L_o rfl rfl rfl (O_app (τ := tTa) 6 rfl (fun w h => h.rd 5 rfl) rfl rfl rfl rfl (by decide) (by decide) (fun T3 => ?_))
   refine JL.norm ?_
   refine Lq (Q_assign rfl) ?_
   refine JL_nil ?_
   refine blockQ_normal ?_
   refine seqQ_normal ?_
   refine J_region ?_
   refine Lq (Q_move rfl) ?_
   refine Lq (Q_add rfl rfl (by first | exact IntWalk.i64_in _ (by omega) | exact IntWalk.u8_in _ (by omega) | exact IntWalk.u32_in _ (by omega) | exact IntWalk.u64_in _ (by omega) | rfl)) ?_
   refine Lq (Q_assign rfl) ?_
   refine JL_nil ?_
   exact loopQ_normal ⟨3, T3, pa', pv', Tl, Tw⟩ (show 3 ≤ 3 by decide) (by show 3 - 3 < 3 - 2; decide) ⟨rfl, rfl, rfl, rfl, rfl, trivial⟩ (Ent.pick [0,1,4,2,3,6,7,8,9,10] _ rfl)
  | 3, _ =>
   show J _ _ _ _ _ _ [chC p true (.pointer (some ⟨pa, 0, none⟩)) Sl.v Sw.v, slc tS true Sl [vA], slc tS true Sw [], agC pa (ag1 1 none0) pv .nilFunc, votA pv [], slc tTa true T (wayA 3), kvA pk K0, folC pf 0 hd0 tl0, folM tl0, F]
   refine J_seq ?_
   refine Sr ?_
   refine Lq (Q_move rfl) ?_
   refine Lq (Q_move rfl) ?_
   refine Lq (Q_lenAt 5 rfl rfl) ?_
   refine Lq ((Q_lss rfl rfl).as (v' := .bool true) rfl) ?_
   refine Lq (Q_move rfl) ?_
   refine Lq (Q_move rfl) ?_
   refine Lq ((Q_lss rfl rfl).as (v' := .bool false) rfl) ?_
   refine Lq (Q_pickT rfl rfl) ?_
   refine Ln ?_
   refine J_condF rfl ?_
   refine J_exit ?_
   refine seqQ_exit ?_
   refine loopQ_exit ?_
   refine blockQ_hit ?_
   exact ⟨rfl, pa, pv, Sl, Sw, ⟨rfl, rfl, rfl, trivial⟩, Ent.re [0,1,6,7,8,9] rfl⟩
 rintro _ ρ1 L1 ⟨rfl, pa, pv, Sl, Sw, hsub, hent⟩
 refine seqQ_normal ?_
 refine J.sub hsub ?_
 refine J.ent hent ?_
 clear hsub hent
 refine Sr ?_
 refine Lq (Q_move rfl) ?_
 refine L_o rfl rfl rfl (O_call [0,1] [2,3,4,5] (clog_ok E p Sl [vA] true (.pointer (some ⟨pa, 0, none⟩)) Sw.v (by decide)) rfl rfl ?_)
 rintro _ _ ⟨Tl, rfl, rfl⟩
 refine JL.norm ?_
 refine Lq (Q_assign rfl) ?_
 refine Ln ?_
 refine J_seq ?_
 refine Sr ?_
 refine Lq (Q_assign rfl) ?_
 refine Ln ?_
 refine J_block ?_
 refine J.cutB (fun e ρ' L' => e = .normal ∧ ∃ m : Nat, envSub [(2, .pointer (some ⟨pf, 0, none⟩)), (3, .pointer (some ⟨pk, 0, none⟩)), (6, Tl.v)] ρ' ∧ Ent L' [slc tS true Tl [vA], kvA pk K1, folC pf 0 (updB hd0 1) (tlF m), folM (tlF m), F]) ?_ ?_
 ·refine J_loop (fun x : Nat × Nat => x.1 ≤ 1) (fun x => [(2, .pointer (some ⟨pf, 0, none⟩)), (3, .pointer (some ⟨pk, 0, none⟩)), (6, Tl.v), (7, .int .i64 (x.1 : Int))]) (fun x => [slc tS true Tl [vA], kvA pk (if x.1 = 0 then K0 else K1), folC pf 0 (if x.1 = 0 then hd0 else updB hd0 1) (if x.1 = 0 then tl0 else tlF x.2), folM (if x.1 = 0 then tl0 else tlF x.2), F]) (fun x => 1 - x.1) (0, 0) (Nat.zero_le _) ⟨rfl, rfl, rfl, rfl, trivial⟩ (Ent.re [2,3,4,5,6] rfl) ?_
  rintro ⟨i, m⟩ hi
  dsimp only at hi ⊢
  match i, hi with
  | 0, _ =>
   rw [if_pos rfl, if_pos rfl, if_pos rfl]
   refine J_seq ?_
   refine Sr ?_
   refine Lq (Q_move rfl) ?_
   refine Lq (Q_move rfl) ?_
   refine Lq (Q_lenAt 0 rfl rfl) ?_
   refine Lq ((Q_lss rfl rfl).as (v' := .bool true) rfl) ?_
   refine Ln ?_
   refine J_condT rfl ?_
   refine J_skip ?_
   refine seqQ_normal ?_
   refine J_seq ?_
   refine J_block ?_
   refine Sr ?_
   refine Lq (Q_move rfl) ?_
   refine Lq (Q_move rfl) ?_
   refine Lq (Q_move rfl) ?_
   refine Lq (Q_move rfl) ?_
   refine Lq (Q_ixAt 0 0 rfl rfl rfl rfl (by decide) rfl) ?_
   refine Lq (Q_ldEAt 0 0 0 (v := str vA) rfl rfl rfl rfl (by decide) (by decide) rfl) ?_
   refine L_o rfl rfl rfl (O_call [2,3] [0,1,4] (fputT_ok E pf 1 0 0 hd0 tl0 vA ⟨by decide, by decide, by decide, rfl⟩ (by decide) (by decide)) rfl rfl ?_)
   rintro _ _ ⟨m2, rfl, rfl⟩
   refine JL.norm ?_
   refine Ln ?_
   refine J_region ?_
   refine Lq (Q_move rfl) ?_
   refine Lq (Q_move rfl) ?_
   refine Lq (Q_move rfl) ?_
   refine Lq (Q_ixAt 2 0 rfl rfl rfl rfl (by decide) rfl) ?_
   refine Lq (Q_ldEAt 2 0 0 (v := str vA) rfl rfl rfl rfl (by decide) (by decide) rfl) ?_
   refine L_o rfl rfl rfl (O_call [3] [0,1,2,4] (hk1 pk) rfl rfl ?_)
   rintro _ _ ⟨rfl, rfl⟩
   refine JL.norm ?_
   refine JL_nil ?_
   refine blockQ_normal ?_
   refine seqQ_normal ?_
   refine J_region ?_
   refine Lq (Q_move rfl) ?_
   refine Lq (Q_add rfl rfl (by first | exact IntWalk.i64_in _ (by omega) | exact IntWalk.u8_in _ (by omega) | exact IntWalk.u32_in _ (by omega) | exact IntWalk.u64_in _ (by omega) | rfl)) ?_
   refine Lq (Q_assign rfl) ?_
   refine JL_nil ?_
   exact loopQ_normal (1, m2) (Nat.le_refl _) (by show 1 - 1 < 1 - 0; decide) ⟨rfl, rfl, rfl, rfl, trivial⟩ (Ent.pick [3,0,1,2,4] _ rfl)
  | 1, _ =>
   rw [if_neg (by decide), if_neg (by decide), if_neg (by decide)]
   refine J_seq ?_
   refine Sr ?_
   refine Lq (Q_move rfl) ?_
   refine Lq (Q_move rfl) ?_
   refine Lq (Q_lenAt 0 rfl rfl) ?_
   refine Lq ((Q_lss rfl rfl).as (v' := .bool false) rfl) ?_
   refine Ln ?_
   refine J_condF rfl ?_
   refine J_exit ?_
   refine seqQ_exit ?_
   refine loopQ_exit ?_
   refine blockQ_hit ?_
   exact ⟨rfl, m, ⟨rfl, rfl, rfl, trivial⟩, Ent.refl _⟩
 rintro _ ρ2 L2 ⟨rfl, m, hsub, hent⟩
 refine seqQ_normal ?_
 refine J.sub hsub ?_
 refine J.ent hent ?_
 clear hsub hent
 refine Sr ?_
 refine Lq (Q_move rfl) ?_
 refine L_o rfl rfl rfl (O_call [1] [0,2,3,4] (hk2 pk) rfl rfl ?_)
 rintro _ _ ⟨rfl, rfl⟩
 refine JL.norm ?_
 refine Ln ?_
 refine Sr ?_
 refine Lq (Q_move rfl) ?_
 refine L_o rfl rfl rfl (O_call [0] [1,2,3,4] (hk3 pk) rfl rfl ?_)
 rintro _ _ ⟨rfl, rfl⟩
 refine JL.norm ?_
 refine Ln ?_
 refine Sr ?_
 refine Lq (Q_move rfl) ?_
 refine L_o rfl rfl rfl (O_call [0] [1,2,3,4] (hk4 pk) rfl rfl ?_)
 rintro _ _ ⟨rfl, rfl⟩
 refine JL.norm ?_
 refine Lq (Q_move rfl) ?_
 refine Lq (Q_extract (v := str [120]) rfl rfl) ?_
 refine Lq (Q_extract (v := .int .i64 0) rfl rfl) ?_
 refine Lq (Q_assign rfl) ?_
 refine Lq (Q_assign rfl) ?_
 refine Ln ?_
 refine Sr ?_
 refine Lq (Q_move rfl) ?_
 refine L_o rfl rfl rfl (O_call [2] [0,1,3,4] (flog_ok E pf 0 (updB hd0 1) (tlF m)) rfl rfl ?_)
 (rintro _ _ ⟨k, S, hk, h1, h2, rfl, rfl⟩; obtain rfl := tlF_log hk h1 h2)
 refine JL.norm ?_
 refine Lq (Q_move rfl) ?_
 refine L_o rfl rfl rfl (O_call [1,3] [0,2,4,5] (rtexts_ok E true true S Tl [vA] [vA] (by decide)) rfl rfl ?_)
 rintro _ _ ⟨rfl, rfl⟩
 refine JL.norm ?_
 refine Lq (Q_move rfl) ?_
 refine Lq (Q_move rfl) ?_
 refine Lq (Q_lenAt 1 rfl rfl) ?_
 refine Lq ((Q_eql rfl rfl).as (v' := .bool true) rfl) ?_
 refine Lq (Q_pickT rfl rfl) ?_
 refine Lq (Q_move rfl) ?_
 refine Lq (Q_move rfl) ?_
 refine Lq ((Q_seql rfl rfl).as (v' := .bool true) rfl) ?_
 refine Lq (Q_pickT rfl rfl) ?_
 refine Lq (Q_move rfl) ?_
 refine Lq (Q_move rfl) ?_
 refine Lq ((Q_eql rfl rfl).as (v' := .bool true) rfl) ?_
 refine Lq (Q_pickT rfl rfl) ?_
 refine Lq (Q_assign rfl) ?_
 refine Ln ?_
 refine J_ret ?_
 exact retQ_ret _ [] (.cons (RV_tmp rfl) .nil) ⟨rfl, rfl⟩ (Ent.re [5] rfl)
end Go.Proofs
/- Two stores that hold the same, though one is synced more often; plain Lean. -/
set_option autoImplicit false
namespace Go.Proofs
open Go.SL Go.Proofs.Bt
def fk (fs : List Fl) : List (Nat × List (List UInt8)) := fs.map fun f => (f.first, f.l)
theorem fk_len {fs fs' : List Fl} (h : fk fs = fk fs') : fs.length = fs'.length := by
 have := congrArg List.length h
 simpa [fk] using this
theorem fk_last {fs fs' : List Fl} (h : fk fs = fk fs') : (fs = [] ∧ fs' = []) ∨ ∃ a x a' x', fs = a ++ [x] ∧ fs' = a' ++ [x'] ∧ fk a = fk a' ∧ x.first = x'.first ∧ x.l = x'.l := by
 have hl := fk_len h
 rcases last_cases fs with e | ⟨a, x, e⟩
 ·left
  rw [e] at hl
  exact ⟨e, List.length_eq_zero_iff.1 hl.symm⟩
 ·right
  rcases last_cases fs' with e' | ⟨a', x', e'⟩
  ·rw [e, e'] at hl; simp at hl
  ·refine ⟨a, x, a', x', e, e', ?_⟩
   rw [e, e'] at h hl
   unfold fk at h
   rw [List.map_append, List.map_append] at h
   have := List.append_inj h (by simp at hl; simp [hl])
   simp only [List.map_cons, List.map_nil, List.cons.injEq, Prod.mk.injEq, and_true] at this
   exact ⟨this.1, this.2.1, this.2.2⟩
theorem fk_next {fs fs' : List Fl} (h : fk fs = fk fs') : nextOf fs = nextOf fs' := by
 rcases fk_last h with ⟨e, e'⟩ | ⟨a, x, a', x', e, e', _, h1, h2⟩
 ·rw [e, e']
 ·rw [e, e', nextOf_snoc, nextOf_snoc]; simp only [Fl.next, h1, h2]
theorem fk_sync (g : Lg) : fk (syncL g).fs = fk g.fs := by
 rcases last_cases g.fs with e | ⟨a, x, e⟩
 ·rw [sync_fs, e]; rfl
 ·rw [sync_fs, e, onLast_snoc]; simp [fk, syncF]
theorem fk_dropN : ∀ {fs fs' : List Fl} (seq : Int), fk fs = fk fs' → dropN fs seq = dropN fs' seq
 | [], [], _, _ => rfl
 | [], _ :: _, _, h => by simp [fk] at h
 | _ :: _, [], _, h => by simp [fk] at h
 | [f], [f'], _, h => rfl
 | [f], _ :: _ :: _, _, h => by simp [fk] at h
 | _ :: _ :: _, [f'], _, h => by simp [fk] at h
 | f :: g :: r, f' :: g' :: r', seq, h => by
  have h' : fk (g :: r) = fk (g' :: r') := by
   unfold fk at h ⊢
   simp only [List.map_cons, List.cons.injEq] at h ⊢
   exact h.2
  have h0 : f.first = f'.first ∧ f.l = f'.l := by
   unfold fk at h
   simp only [List.map_cons, List.cons.injEq, Prod.mk.injEq] at h
   exact h.1
  have hn : f.next = f'.next := by simp only [Fl.next, h0]
  simp only [dropN, hn, fk_dropN seq h']
theorem fk_app {g g' : Lg} (t : List UInt8) (hs : g.size = g'.size) (h : fk g.fs = fk g'.fs) : (appL g t).2 = (appL g' t).2 ∧ fk (appL g t).1.fs = fk (appL g' t).1.fs := by
 have hr : roomB g (8 + t.length) = roomB g' (8 + t.length) := by
  rcases fk_last h with ⟨e, e'⟩ | ⟨a, x, a', x', e, e', _, h1, h2⟩
  ·simp [roomB, e, e']
  ·simp [roomB, e, e', h2, hs]
 have hn := fk_next h
 have hl := fk_len h
 unfold appL
 rw [hs, hr, hn, hl]
 split
 ·exact ⟨rfl, h⟩
 split
 ·exact ⟨rfl, h⟩
 split
 ·refine ⟨rfl, ?_⟩
  dsimp only
  rcases fk_last h with ⟨e, e'⟩ | ⟨a, x, a', x', e, e', ha, h1, h2⟩
  ·rw [e, e']
  ·rw [e, e', onLast_snoc, onLast_snoc]
   unfold fk at ha ⊢
   rw [List.map_append, List.map_append, ha]
   simp [putF, h1, h2]
 split
 ·exact ⟨rfl, h⟩
 ·refine ⟨rfl, ?_⟩
  dsimp only
  have h1 := fk_sync g
  have h2 := fk_sync g'
  rw [h] at h1
  unfold fk at h1 h2 ⊢
  rw [List.map_append, List.map_append, h1, h2]
structure Sim (A B : Kst) : Prop where
 size : A.g.size = B.g.size
 fs : fk A.g.fs = fk B.g.fs
 a : A.a = B.a
 b : A.b = B.b
 saved : A.saved = B.saved
 t : A.t = B.t
section
variable {A B : Kst}
theorem sim_refl (A : Kst) : Sim A A := ⟨rfl, rfl, rfl, rfl, rfl, rfl⟩
theorem Sim.log (h : Sim A B) (ch : Chg) : (appL A.g (chB ch)).2.2 = (appL B.g (chB ch)).2.2 ∧ Sim (logK A ch) (logK B ch) := by
 obtain ⟨h1, h2⟩ := fk_app (chB ch) h.size h.fs
 refine ⟨by rw [h1], ?_⟩
 unfold logK
 rw [h1]
 split
 ·exact ⟨by rw [appL_size, appL_size]; exact h.size, h2, h.a, h.b, h.saved, by show chL A.t ch = chL B.t ch; rw [h.t]⟩
 ·exact h
theorem Sim.put (h : Sim A B) (k v : Ky) : putE A k v = putE B k v ∧ Sim (putK A k v) (putK B k v) := by
 unfold putE putK
 split
 ·exact h.log _
 ·exact ⟨rfl, h⟩
theorem Sim.del (h : Sim A B) (k : Ky) : delE A k = delE B k ∧ Sim (delK A k) (delK B k) := by
 unfold delE delK
 rw [h.t]
 split
 ·split
  ·exact h.log _
  ·exact ⟨rfl, h⟩
 ·exact ⟨rfl, h⟩
theorem Sim.cp (h : Sim A B) (upto : Int) : Sim (cpK A upto) (cpK B upto) := by
 have hn : nextOf (syncL A.g).fs = nextOf (syncL B.g).fs := by rw [sync_next, sync_next]; exact fk_next h.fs
 have hf : fk (syncL A.g).fs = fk (syncL B.g).fs := by rw [fk_sync, fk_sync]; exact h.fs
 have hw : cpW A upto = cpW B upto := by unfold cpW; rw [h.a, h.b, hn, h.t]
 unfold cpK
 rw [hw, h.a, h.b, hn]
 split
 ·refine ⟨h.size, ?_, rfl, rfl, rfl, h.t⟩
  show fk ((syncL A.g).fs.drop _) = fk ((syncL B.g).fs.drop _)
  rw [fk_dropN _ hf]
  unfold fk at hf ⊢
  rw [List.map_drop, List.map_drop, hf]
 ·exact ⟨h.size, hf, rfl, rfl, h.saved, h.t⟩
theorem Sim.crash {base : List Kv} {n c : Nat} (h : Sim A B) (hI : Inv B base n c) (keep : Nat) : Sim A (crashK (syncK B) base keep) := by
 obtain ⟨g1, g2, g3⟩ := hI.again keep
 refine ⟨h.size, ?_, h.a, h.b, h.saved, by rw [g1]; exact h.t⟩
 show fk A.g.fs = fk (crashL (syncL B.g) keep).fs
 rw [crash_sync keep hI.g, fk_sync]; exact h.fs
theorem Sim.next (h : Sim A B) : nextOf A.g.fs = nextOf B.g.fs := fk_next h.fs
end
end Go.Proofs
