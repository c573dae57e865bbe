/- Part 23 of the texts below the row: KvJ, Kv16, KvA, Aw38. -/
import Derived.Test.YtkglhackgghcfaaGreatM22
/- What holds of a store, kept by all that is done to it; plain Lean. -/
set_option autoImplicit false
namespace Go.Proofs
open Go.SL Go.Proofs.Bt
structure Kst where
  g : Lg
  a : List UInt8
  b : List UInt8
  saved : Nat
  t : List Kv
def newK (z : Int) : Kst := ⟨⟨newSize z, 0, []⟩, [], [], 0, []⟩
def logK (K : Kst) (c : Chg) : Kst := if (appL K.g (chB c)).2.2 = 0 then ⟨(appL K.g (chB c)).1, K.a, K.b, K.saved, chL K.t c⟩ else K
def putOk (k v : Ky) : Bool := keyB k && decide (v.length ≤ 1024)
def putK (K : Kst) (k v : Ky) : Kst := if putOk k v = true then logK K (.put k v) else K
def putE (K : Kst) (k v : Ky) : Int := if putOk k v = true then (appL K.g (chB (.put k v))).2.2 else 1
def delK (K : Kst) (k : Ky) : Kst := if keyB k = true then if hasL K.t k = true then logK K (.del k) else K else K
def delE (K : Kst) (k : Ky) : Int := if keyB k = true then if hasL K.t k = true then (appL K.g (chB (.del k))).2.2 else 9 else 1
def syncK (K : Kst) : Kst := ⟨syncL K.g, K.a, K.b, K.saved, K.t⟩
def cpW (K : Kst) (upto : Int) : List UInt8 × List UInt8 × Int := doW K.a K.b (bodyK (nextOf (syncL K.g).fs) K.t) upto
def cpK (K : Kst) (upto : Int) : Kst :=
  if (cpW K upto).2.2 = 0 ∧ loadN (cpW K upto).1 (cpW K upto).2.1 ≠ loadN K.a K.b then ⟨(dropL (syncL K.g) (nextOf (syncL K.g).fs)).1, (cpW K upto).1, (cpW K upto).2.1, nextOf (syncL K.g).fs, K.t⟩
  else ⟨syncL K.g, (cpW K upto).1, (cpW K upto).2.1, K.saved, K.t⟩
def crashK (K : Kst) (base : List Kv) (keep : Nat) : Kst := ⟨crashL K.g keep, K.a, K.b, K.saved, rep (crashL K.g keep).fs K.saved base (nextOf (crashL K.g keep).fs - K.saved)⟩
structure Inv (K : Kst) (base : List Kv) (n c : Nat) : Prop where
  g : Good K.g c
  sa : SureAt K.g
  tl : Tells K.a K.b (if n = 0 then [] else bodyK K.saved base) n
  z : n = 0 → K.saved = 0 ∧ base = []
  la : K.a.length ≤ 40000
  lb : K.b.length ≤ 40000
  up : Up base
  w : wt base ≤ 40000
  fi : firstOf K.g.fs ≤ K.saved
  su : K.saved ≤ K.g.sure
  tr : K.t = rep K.g.fs K.saved base (nextOf K.g.fs - K.saved)
theorem wt_len (l : List Kv) : 8 * l.length ≤ wt l := by rw [← texts_wt]; exact texts_w l
section
variable {K : Kst} {base : List Kv} {n c : Nat}
theorem Inv.mono {d : Nat} (h : Inv K base n c) (hd : c ≤ d) : Inv K base n d := ⟨h.g.mono hd, h.sa, h.tl, h.z, h.la, h.lb, h.up, h.w, h.fi, h.su, h.tr⟩
theorem inv_new (z : Int) : Inv (newK z) [] 0 0 := ⟨good_new z, sureAt_new _, tells_nil, fun _ => ⟨rfl, rfl⟩, Nat.zero_le _, Nat.zero_le _, List.Pairwise.nil, Nat.zero_le _, Nat.le_refl _, Nat.le_refl _, rfl⟩
theorem Inv.sn (h : Inv K base n c) : K.saved ≤ nextOf K.g.fs := Nat.le_trans h.su (sure_next h.sa)
theorem Inv.tup (h : Inv K base n c) : Up K.t := by rw [h.tr]; exact rep_up h.up _
theorem Inv.span (h : Inv K base n c) : nextOf K.g.fs - K.saved ≤ 16384 := by
  have h1 := next_first K.g.fs h.g.ch (fun f hf => by have := text_len f.l; have := (h.g.file f hf).1; omega)
  have h2 := h.g.few
  have h3 := h.fi
  omega
theorem Inv.len (h : Inv K base n c) : K.t.length ≤ 21384 := by
  have h1 := rep_len (fs := K.g.fs) (s := K.saved) h.up (nextOf K.g.fs - K.saved)
  rw [← h.tr] at h1
  have h2 := h.span
  have h3 := wt_len base
  have h4 := h.w
  omega
theorem Inv.wtt (h : Inv K base n c) : wt K.t ≤ 68000000 := by
  have h1 := rep_wt (fs := K.g.fs) (fun f hf => (h.g.file f hf).2.2.1) K.saved base (nextOf K.g.fs - K.saved)
  rw [← h.tr] at h1
  have h2 := h.span
  have h4 := h.w
  omega
theorem Inv.told (h : Inv K base n c) (hc : c ≤ 1000000) : Told K.a K.b K.saved base := by
  obtain ⟨h1, h2⟩ := h.tl.load
  refine ⟨h.la, h.lb, ?_, ?_, h.up, by rw [texts_wt]; exact h.w⟩
  · by_cases h0 : n = 0
    · exact .inl ⟨by rw [h2, h0], h.z h0⟩
    · rw [if_neg h0] at h1
      exact .inr ⟨by rw [h2]; exact h0, h1⟩
  · have := h.su
    have := h.g.sure
    omega
theorem Inv.log {ch : Chg} (h : Inv K base n c) (hr : readC (chB ch) = ch) : Inv (logK K ch) base n (c + 1) := by
  unfold logK
  split
  · rename_i he
    obtain ⟨t1, t2, t3, t4, t5⟩ := app_told h.g.ch h.sa he
    have hsn := h.sn
    refine ⟨h.g.app _, h.sa.app _, h.tl, h.z, h.la, h.lb, h.up, h.w, by dsimp only; rw [t2]; exact h.fi, Nat.le_trans h.su t3, ?_⟩
    dsimp only
    rw [t1, show nextOf K.g.fs + 1 - K.saved = nextOf K.g.fs - K.saved + 1 by omega]
    show _ = chL (rep _ _ _ _) _
    rw [show ((K.saved + (nextOf K.g.fs - K.saved) : Nat) : Int) = (nextOf K.g.fs : Int) by omega, t5, hr]
    rw [rep_same (fs' := K.g.fs) (fun x h1 h2 => t4 x (by omega)), ← h.tr]
  · exact h.mono (by omega)
theorem Inv.sync (h : Inv K base n c) : Inv (syncK K) base n c := by
  refine ⟨h.g.sync, h.sa.sync h.sa, h.tl, h.z, h.la, h.lb, h.up, h.w, by show firstOf (syncL K.g).fs ≤ _; rw [sync_first]; exact h.fi, ?_, ?_⟩
  · show K.saved ≤ (syncL K.g).sure
    rw [sync_sure h.sa]; exact h.sn
  · show K.t = rep (syncL K.g).fs K.saved base (nextOf (syncL K.g).fs - K.saved)
    rw [sync_next, rep_same (fs' := K.g.fs) (fun x _ _ => sync_getL K.g x)]
    exact h.tr
theorem Inv.cp (upto : Int) (h : Inv K base n c) (hn : n < 1000) : ∃ (base' : List Kv) (n' : Nat), Inv (cpK K upto) base' n' c ∧ n' ≤ n + 1 ∧ ((base' = base ∧ (cpK K upto).saved = K.saved) ∨ (base' = K.t ∧ (cpK K upto).saved = nextOf K.g.fs)) ∧ (cpK K upto).t = K.t ∧ nextOf (cpK K upto).g.fs = nextOf K.g.fs := by
  have hs := h.sync
  have hl := doW_len (body := bodyK (nextOf (syncL K.g).fs) K.t) (upto := upto) h.la h.lb
  have off : ∀ w : List UInt8 × List UInt8 × Int, w.1.length ≤ 40000 ∧ w.2.1.length ≤ 40000 → Tells w.1 w.2.1 (if n = 0 then [] else bodyK K.saved base) n → Inv ⟨syncL K.g, w.1, w.2.1, K.saved, K.t⟩ base n c :=
    fun w hw ht => ⟨hs.g, hs.sa, ht, h.z, hw.1, hw.2, h.up, h.w, hs.fi, hs.su, hs.tr⟩
  unfold cpK cpW
  by_cases hb : (bodyK (nextOf (syncL K.g).fs) K.t).length ≤ 32768
  · have he := doW_ok (a := K.a) (b := K.b) (upto := upto) hb
    by_cases hw : wholeN (bodyK (nextOf (syncL K.g).fs) K.t) upto
    · have ht := write_whole h.tl hn hb hw
      rw [if_pos ⟨he, by rw [ht.load.2, h.tl.load.2]; omega⟩]
      refine ⟨K.t, n + 1, ⟨hs.g.drop _, hs.sa.drop _, by rw [if_neg (by omega)]; exact ht, fun h0 => by omega, hl.1, hl.2, h.tup, ?_, ?_, ?_, ?_⟩, Nat.le_refl _, .inr ⟨rfl, sync_next _⟩, rfl, ?_⟩
      · have : (bodyK (nextOf (syncL K.g).fs) K.t).length = 4 + wt K.t := by rw [← texts_wt]; simp [bodyK, four_len]
        omega
      · have hd := drop_first (syncL K.g).fs (nextOf (syncL K.g).fs : Int) hs.g.ch
        have h1 := hs.fi
        have h2 := hs.sn
        show firstOf ((syncL K.g).fs.drop _) ≤ nextOf (syncL K.g).fs
        have h3 : firstOf (syncL K.g).fs ≤ K.saved := h1
        have h4 : K.saved ≤ nextOf (syncL K.g).fs := h2
        rcases hd.2 with hd | hd <;> omega
      · show nextOf (syncL K.g).fs ≤ (syncL K.g).sure
        rw [sync_sure h.sa, sync_next]
        exact Nat.le_refl _
      · show K.t = rep _ _ _ (nextOf ((syncL K.g).fs.drop _) - nextOf (syncL K.g).fs)
        rw [drop_next, Nat.sub_self]; rfl
      · show nextOf ((syncL K.g).fs.drop _) = _
        rw [drop_next, sync_next]
    · have ht := write_cut h.tl hb hw
      rw [if_neg (fun hx => hx.2 (by rw [ht.load.2, h.tl.load.2]))]
      exact ⟨base, n, off _ hl ht, by omega, .inl ⟨rfl, rfl⟩, rfl, sync_next _⟩
  · have he := doW_err (a := K.a) (b := K.b) (upto := upto) (Nat.lt_of_not_le hb)
    rw [he] at hl ⊢
    rw [if_neg (fun hx => by have := hx.1; cases this)]
    exact ⟨base, n, off (K.a, K.b, 2) hl h.tl, by omega, .inl ⟨rfl, rfl⟩, rfl, sync_next _⟩
theorem sure_crash {g : Lg} {c : Nat} (keep : Nat) (hg : Good g c) (h : SureAt g) : SureAt (crashL g keep) := by
  rcases last_cases g.fs with e | ⟨a, x, e⟩
  · left
    rcases h with ⟨_, h⟩ | ⟨a, f, j, h, _⟩
    · exact ⟨by simp [crashL, e, onLast], by simp [crashL, e, h]⟩
    · rw [e] at h; simp at h
  · right
    obtain ⟨p1, p2, p3⟩ := prefixR_text _ (tear x.d keep) (Nat.le_refl _)
    refine ⟨a, crashF x keep, (crashF x keep).l.length, by simp only [crashL]; rw [e, onLast_snoc], Nat.le_refl _, ?_, ?_⟩
    · rw [List.take_length]
      simp only [crashF]
      rw [p1, List.length_take]; omega
    · simp only [crashL]
      rw [if_neg (by rw [e]; simp), e, onLast_snoc, nextOf_snoc]; rfl
theorem Inv.crash (keep : Nat) (h : Inv K base n c) : Inv (crashK K base keep) base n (c + 8192) := by
  obtain ⟨c1, c2, c3, c4⟩ := crash_sure (keep := keep) h.g h.sa
  refine ⟨h.g.crash, sure_crash keep h.g h.sa, h.tl, h.z, h.la, h.lb, h.up, h.w, ?_, ?_, rfl⟩
  · show firstOf (crashL K.g keep).fs ≤ _
    rw [c1]; exact h.fi
  · show K.saved ≤ (crashL K.g keep).sure
    rw [c3]; exact Nat.le_trans h.su c2
end
theorem crash_sync {g : Lg} {c : Nat} (keep : Nat) (hg : Good g c) : (crashL (syncL g) keep).fs = (syncL g).fs := by
  rcases last_cases g.fs with e | ⟨a, f, e⟩
  · simp [crashL, syncL, e, onLast]
  · obtain ⟨a1, a2, a3, a4⟩ := hg.file f (by rw [e]; simp)
    have e1 : (syncL g).fs = a ++ [syncF f] := by rw [sync_fs, e, onLast_snoc]
    have e2 : (crashL (syncL g) keep).fs = a ++ [crashF (syncF f) keep] := by simp only [crashL]; rw [e1, onLast_snoc]
    have h1 := tear_sure (syncF f).d keep
    have h2 := tear_length (syncF f).d keep (Nat.le_refl _)
    have h3 : tear (syncF f).d keep = text f.l := by
      have hs : (syncF f).d.s = (text f.l).length := rfl
      have hb : (syncF f).d.b = text f.l := rfl
      rw [hs, hb] at h1
      rw [hs, hb] at h2
      rw [List.take_of_length_le h2.2, List.take_length] at h1
      exact h1
    have h4 := prefixR_app f.l [] a3
    rw [List.append_nil, prefixR_stop (s := []) (by decide)] at h4
    rw [e1, e2]
    have h5 : crashF (syncF f) keep = syncF f := by
      simp only [crashF, h3, h4, List.append_nil, Nat.add_zero]; rfl
    rw [h5]
theorem Inv.again {K : Kst} {base : List Kv} {n c : Nat} (keep : Nat) (h : Inv K base n c) : (crashK (syncK K) base keep).t = K.t ∧ nextOf (crashK (syncK K) base keep).g.fs = nextOf K.g.fs ∧ (crashK (syncK K) base keep).g.sure = nextOf K.g.fs := by
  have e := crash_sync keep h.g
  have hs := h.sync
  have h2 := crash_sure (keep := keep) hs.g hs.sa
  have e3 : nextOf (crashL (syncL K.g) keep).fs = nextOf K.g.fs := by rw [e, sync_next]
  refine ⟨?_, e3, ?_⟩
  · show rep (crashL (syncL K.g) keep).fs _ _ (nextOf (crashL (syncL K.g) keep).fs - _) = _
    rw [e]; exact hs.tr.symm
  · exact h2.2.2.1.trans e3
/-! ### Beginnings -/
def repA (all : List (List UInt8)) (i : Nat) : List Kv := (all.take i).foldl (fun t r => chL t (readC r)) []
theorem repA_succ {all : List (List UInt8)} {i : Nat} (h : i < all.length) : repA all (i + 1) = chL (repA all i) (readC all[i]) := by
  unfold repA
  rw [List.take_succ_eq_append_getElem h, List.foldl_append]; rfl
theorem repA_app {all : List (List UInt8)} {i : Nat} (x : List UInt8) (h : i ≤ all.length) : repA (all ++ [x]) i = repA all i := by
  unfold repA
  rw [List.take_append_of_le_length h]
theorem rep_repA {fs : List Fl} {all : List (List UInt8)} {s : Nat} : ∀ {n : Nat}, s + n ≤ all.length → (∀ x : Nat, s ≤ x → x < s + n → ∃ t, all[x]? = some t ∧ getL fs (x : Int) = (t, 0)) → rep fs s (repA all s) n = repA all (s + n)
  | 0, _, _ => rfl
  | n + 1, hl, h => by
    obtain ⟨t, h1, h2⟩ := h (s + n) (by omega) (by omega)
    show chL (rep fs s (repA all s) n) _ = repA all (s + n + 1)
    rw [rep_repA (by omega) (fun x h3 h4 => h x h3 (by omega)), repA_succ (show s + n < all.length by omega), h2]
    rw [List.getElem?_eq_getElem (show s + n < all.length by omega)] at h1
    cases h1; rfl
structure Beg (K : Kst) (base : List Kv) (all : List (List UInt8)) : Prop where
  bk : Back K.g all
  len : all.length = nextOf K.g.fs
  bs : base = repA all K.saved
section
variable {K : Kst} {base : List Kv} {n c : Nat} {all : List (List UInt8)}
theorem beg_new (z : Int) : Beg (newK z) [] [] := ⟨back_new _, rfl, rfl⟩
theorem Beg.tr (hI : Inv K base n c) (h : Beg K base all) : K.t = repA all (nextOf K.g.fs) := by
  have h1 := hI.sn
  have h2 := h.len
  rw [hI.tr, h.bs, rep_repA (by omega) (fun x h3 h4 => back_get all x K.g.fs hI.g.ch h.bk.at' (Nat.le_trans hI.fi h3) (by omega))]
  congr 1
  omega
theorem Beg.sync (h : Beg K base all) : Beg (syncK K) base all := ⟨h.bk.sync, by show _ = nextOf (syncL K.g).fs; rw [sync_next]; exact h.len, h.bs⟩
theorem Beg.log {ch : Chg} (hI : Inv K base n c) (h : Beg K base all) : Beg (logK K ch) base (if (appL K.g (chB ch)).2.2 = 0 then all ++ [chB ch] else all) := by
  unfold logK
  split
  · rename_i he
    obtain ⟨t1, t2, t3, t4, t5⟩ := app_told hI.g.ch hI.sa he
    have hb := ((h.bk).app (chB ch) hI.g.ch).2 he
    have hl := h.len
    refine ⟨?_, ?_, ?_⟩
    · have := hb.2
      rw [← hl, List.take_length] at this
      exact this
    · show _ = nextOf (appL K.g (chB ch)).1.fs
      rw [t1, List.length_append, hl]; rfl
    · show base = repA (all ++ [chB ch]) K.saved
      rw [repA_app _ (by rw [hl]; exact hI.sn)]; exact h.bs
  · exact h
theorem Beg.cp (upto : Int) (hI : Inv K base n c) (h : Beg K base all) {base' : List Kv} (hb : (base' = base ∧ (cpK K upto).saved = K.saved) ∨ (base' = K.t ∧ (cpK K upto).saved = nextOf K.g.fs)) (hn : nextOf (cpK K upto).g.fs = nextOf K.g.fs) : Beg (cpK K upto) base' all := by
  refine ⟨?_, by rw [hn]; exact h.len, ?_⟩
  · unfold cpK
    split
    · exact h.bk.sync.drop _
    · exact h.bk.sync
  · rcases hb with ⟨rfl, e⟩ | ⟨rfl, e⟩
    · rw [e]; exact h.bs
    · rw [e]; exact h.tr hI
theorem Beg.crash (k : Nat) (hI : Inv K base n c) (h : Beg K base all) : (crashK K base (2 ^ k - 1)).t = repA all (nextOf (crashK K base (2 ^ k - 1)).g.fs) ∧ nextOf (crashK K base (2 ^ k - 1)).g.fs ≤ nextOf K.g.fs ∧ max K.g.sure K.saved ≤ nextOf (crashK K base (2 ^ k - 1)).g.fs := by
  have hc := h.bk.crash (k := k) hI.g
  have hI2 := hI.crash (2 ^ k - 1)
  have hl := h.len
  have hle : nextOf (crashL K.g (2 ^ k - 1)).fs ≤ all.length := hc.le
  obtain ⟨c1, c2, c3, c4⟩ := crash_sure (keep := 2 ^ k - 1) hI.g hI.sa
  have hsn : K.saved ≤ nextOf (crashL K.g (2 ^ k - 1)).fs := hI2.sn
  refine ⟨?_, by show nextOf (crashL K.g (2 ^ k - 1)).fs ≤ _; omega, ?_⟩
  · have hfi : firstOf (crashL K.g (2 ^ k - 1)).fs ≤ K.saved := hI2.fi
    have hch : chain (crashL K.g (2 ^ k - 1)).fs := hI2.g.ch
    show rep (crashL K.g (2 ^ k - 1)).fs K.saved base (nextOf (crashL K.g (2 ^ k - 1)).fs - K.saved) = repA all (nextOf (crashL K.g (2 ^ k - 1)).fs)
    rw [h.bs, rep_repA (by omega) (fun x h3 h4 => back_get all x _ hch hc.at' (Nat.le_trans hfi h3) (by omega))]
    congr 1
    omega
  · show _ ≤ nextOf (crashL K.g (2 ^ k - 1)).fs
    have := hI.su
    omega
end
/-! ### A change's bytes are its own -/
theorem readC_put (k v : Ky) (h : k.length ≤ 1000000) (h2 : v.length ≤ 1000000) : readC (chB (.put k v)) = .put k v := by
  have hr : readT (texts [[112], k, v]) = some [[112], k, v] := kreadT _ (by
    intro s hs
    simp at hs
    rcases hs with rfl | rfl | rfl
    · decide
    · omega
    · omega)
  have h1 : readE (texts [[112], k, v]) = 0 := by simp [readE, hr]
  have h2 : readL (texts [[112], k, v]) = [[112], k, v] := by simp [readL, hr]
  show readC (texts [[112], k, v]) = _
  unfold readC
  rw [h2, if_pos ⟨h1, rfl⟩]; rfl
theorem readC_del (k : Ky) (h : k.length ≤ 1000000) : readC (chB (.del k)) = .del k := by
  have hr : readT (texts [[100], k]) = some [[100], k] := kreadT _ (by
    intro s hs
    simp at hs
    rcases hs with rfl | rfl
    · decide
    · omega)
  have h1 : readE (texts [[100], k]) = 0 := by simp [readE, hr]
  have h2 : readL (texts [[100], k]) = [[100], k] := by simp [readL, hr]
  show readC (texts [[100], k]) = _
  unfold readC
  rw [h2, if_neg (by simp), if_pos ⟨h1, rfl⟩]; rfl
end Go.Proofs
/- A store: what is refused; a store that is none. -/
set_option autoImplicit false
namespace Go.Proofs
open Go.SL Go.Proofs.Bt
attribute [local irreducible] J JL QOp JOp seqQ blockQ loopQ retQ slc cel hex star pur stars Does RV Ent pAt scopeQ
attribute [local irreducible] nodeA nodeX treeA segA snapA
theorem kputB_ok (E : World) (p : Nat) (k v : Ky) (hk : putOk k v = false) : Does Tryz.prog E 11 [.pointer (some ⟨p, 0, none⟩), str k, str v] [] fun r L => r = .int .i64 1 ∧ L = [] := by
  have hkey := key_ok E k
  cases hb : keyB k with
  | false =>
    rw [show (decide (k ≠ []) && decide (k.length ≤ 32)) = false from hb] at hkey
    refine Does.of Tryz.func11 rfl Tryz.ntmps11 rfl rfl fun F => ?_
    refine J.norm ?_
    refine J_seq ?_
    refine J_region ?_
    refine L_q (Q_assign rfl) rfl rfl rfl ?_
    refine JL_nil ?_
    refine seqQ_normal ?_
    refine J_seq ?_
    refine J_seq ?_
    refine J_region ?_
    refine L_q (Q_move rfl) rfl rfl rfl ?_
    refine L_q ((Q_peql rfl rfl).as (v' := .bool false) rfl) rfl rfl rfl ?_
    refine L_q (Q_move rfl) rfl rfl rfl ?_
    refine L_q (Q_move rfl) rfl rfl rfl ?_
    refine L_o rfl rfl rfl (O_call [] [0] hkey rfl rfl ?_)
    rintro _ _ ⟨rfl, rfl⟩
    refine JL.norm ?_
    refine L_q ((Q_not rfl).as (v' := .bool true) rfl) rfl rfl rfl ?_
    refine L_q (Q_pickF rfl rfl) rfl rfl rfl ?_
    refine L_q (Q_move rfl) rfl rfl rfl ?_
    refine L_n rfl rfl rfl ?_
    refine L_n rfl rfl rfl ?_
    refine L_n rfl rfl rfl ?_
    refine L_q (Q_pickT rfl rfl) rfl rfl rfl ?_
    refine JL_nil ?_
    refine seqQ_normal ?_
    refine J_condT rfl ?_
    refine J_seq ?_
    refine J_region ?_
    refine L_q (Q_assign rfl) rfl rfl rfl ?_
    refine JL_nil ?_
    refine seqQ_normal ?_
    refine J_ret ?_
    refine seqQ_ret ?_
    exact retQ_ret _ [] (.cons (RV_tmp rfl) .nil) ⟨rfl, rfl⟩ (Ent.refl _)
  | true =>
    rw [show (decide (k ≠ []) && decide (k.length ≤ 32)) = true from hb] at hkey
    have hv : ¬ v.length ≤ 1024 := by simpa [putOk, hb] using hk
    refine Does.of Tryz.func11 rfl Tryz.ntmps11 rfl rfl fun F => ?_
    refine J.norm ?_
    refine J_seq ?_
    refine J_region ?_
    refine L_q (Q_assign rfl) rfl rfl rfl ?_
    refine JL_nil ?_
    refine seqQ_normal ?_
    refine J_seq ?_
    refine J_seq ?_
    refine J_region ?_
    refine L_q (Q_move rfl) rfl rfl rfl ?_
    refine L_q ((Q_peql rfl rfl).as (v' := .bool false) rfl) rfl rfl rfl ?_
    refine L_q (Q_move rfl) rfl rfl rfl ?_
    refine L_q (Q_move rfl) rfl rfl rfl ?_
    refine L_o rfl rfl rfl (O_call [] [0] hkey rfl rfl ?_)
    rintro _ _ ⟨rfl, rfl⟩
    refine JL.norm ?_
    refine L_q ((Q_not rfl).as (v' := .bool false) rfl) rfl rfl rfl ?_
    refine L_q (Q_pickF rfl rfl) rfl rfl rfl ?_
    refine L_q (Q_move rfl) rfl rfl rfl ?_
    refine L_q (Q_move rfl) rfl rfl rfl ?_
    refine L_q (Q_slen rfl) rfl rfl rfl ?_
    refine L_q ((Q_gtr rfl rfl).as (v' := .bool true) (congrArg Value.bool (decide_eq_true (by omega)))) rfl rfl rfl ?_
    refine L_q (Q_pickF rfl rfl) rfl rfl rfl ?_
    refine JL_nil ?_
    refine seqQ_normal ?_
    refine J_condT rfl ?_
    refine J_seq ?_
    refine J_region ?_
    refine L_q (Q_assign rfl) rfl rfl rfl ?_
    refine JL_nil ?_
    refine seqQ_normal ?_
    refine J_ret ?_
    refine seqQ_ret ?_
    exact retQ_ret _ [] (.cons (RV_tmp rfl) .nil) ⟨rfl, rfl⟩ (Ent.refl _)
theorem kputN_ok (E : World) (k v : Ky) : Does Tryz.prog E 11 [.pointer none, str k, str v] [] fun r L => r = .int .i64 1 ∧ L = [] := by
  refine Does.of Tryz.func11 rfl Tryz.ntmps11 rfl rfl fun F => ?_
  refine J.norm ?_
  refine J_seq ?_
  refine J_region ?_
  refine L_q (Q_assign rfl) rfl rfl rfl ?_
  refine JL_nil ?_
  refine seqQ_normal ?_
  refine J_seq ?_
  refine J_seq ?_
  refine J_region ?_
  refine L_q (Q_move rfl) rfl rfl rfl ?_
  refine L_q ((Q_peql rfl rfl).as (v' := .bool true) rfl) rfl rfl rfl ?_
  refine L_q (Q_move rfl) rfl rfl rfl ?_
  refine L_n rfl rfl rfl ?_
  refine L_n rfl rfl rfl ?_
  refine L_n rfl rfl rfl ?_
  refine L_q (Q_pickT rfl rfl) rfl rfl rfl ?_
  refine L_q (Q_move rfl) rfl rfl rfl ?_
  refine L_n rfl rfl rfl ?_
  refine L_n rfl rfl rfl ?_
  refine L_n rfl rfl rfl ?_
  refine L_q (Q_pickT rfl rfl) rfl rfl rfl ?_
  refine JL_nil ?_
  refine seqQ_normal ?_
  refine J_condT rfl ?_
  refine J_seq ?_
  refine J_region ?_
  refine L_q (Q_assign rfl) rfl rfl rfl ?_
  refine JL_nil ?_
  refine seqQ_normal ?_
  refine J_ret ?_
  refine seqQ_ret ?_
  exact retQ_ret _ [] (.cons (RV_tmp rfl) .nil) ⟨rfl, rfl⟩ (Ent.refl _)
theorem kdelN_ok (E : World) (k : Ky) : Does Tryz.prog E 12 [.pointer none, str k] [] fun r L => r = .int .i64 1 ∧ L = [] := by
  refine Does.of Tryz.func12 rfl Tryz.ntmps12 rfl rfl fun F => ?_
  refine J.norm ?_
  refine J_seq ?_
  refine J_region ?_
  refine L_q (Q_assign rfl) rfl rfl rfl ?_
  refine JL_nil ?_
  refine seqQ_normal ?_
  refine J_seq ?_
  refine J_seq ?_
  refine J_region ?_
  refine L_q (Q_move rfl) rfl rfl rfl ?_
  refine L_q ((Q_peql rfl rfl).as (v' := .bool true) rfl) rfl rfl rfl ?_
  refine L_q (Q_move rfl) rfl rfl rfl ?_
  refine L_n rfl rfl rfl ?_
  refine L_n rfl rfl rfl ?_
  refine L_n rfl rfl rfl ?_
  refine L_q (Q_pickT rfl rfl) rfl rfl rfl ?_
  refine JL_nil ?_
  refine seqQ_normal ?_
  refine J_condT rfl ?_
  refine J_seq ?_
  refine J_region ?_
  refine L_q (Q_assign rfl) rfl rfl rfl ?_
  refine JL_nil ?_
  refine seqQ_normal ?_
  refine J_ret ?_
  refine seqQ_ret ?_
  exact retQ_ret _ [] (.cons (RV_tmp rfl) .nil) ⟨rfl, rfl⟩ (Ent.refl _)
theorem kdelB_ok (E : World) (p : Nat) (k : Ky) (hb : keyB k = false) : Does Tryz.prog E 12 [.pointer (some ⟨p, 0, none⟩), str k] [] fun r L => r = .int .i64 1 ∧ L = [] := by
  have hkey := key_ok E k
  rw [show (decide (k ≠ []) && decide (k.length ≤ 32)) = false from hb] at hkey
  refine Does.of Tryz.func12 rfl Tryz.ntmps12 rfl rfl fun F => ?_
  refine J.norm ?_
  refine J_seq ?_
  refine J_region ?_
  refine L_q (Q_assign rfl) rfl rfl rfl ?_
  refine JL_nil ?_
  refine seqQ_normal ?_
  refine J_seq ?_
  refine J_seq ?_
  refine J_region ?_
  refine L_q (Q_move rfl) rfl rfl rfl ?_
  refine L_q ((Q_peql rfl rfl).as (v' := .bool false) rfl) rfl rfl rfl ?_
  refine L_q (Q_move rfl) rfl rfl rfl ?_
  refine L_q (Q_move rfl) rfl rfl rfl ?_
  refine L_o rfl rfl rfl (O_call [] [0] hkey rfl rfl ?_)
  rintro _ _ ⟨rfl, rfl⟩
  refine JL.norm ?_
  refine L_q ((Q_not rfl).as (v' := .bool true) rfl) rfl rfl rfl ?_
  refine L_q (Q_pickF rfl rfl) rfl rfl rfl ?_
  refine JL_nil ?_
  refine seqQ_normal ?_
  refine J_condT rfl ?_
  refine J_seq ?_
  refine J_region ?_
  refine L_q (Q_assign rfl) rfl rfl rfl ?_
  refine JL_nil ?_
  refine seqQ_normal ?_
  refine J_ret ?_
  refine seqQ_ret ?_
  exact retQ_ret _ [] (.cons (RV_tmp rfl) .nil) ⟨rfl, rfl⟩ (Ent.refl _)
theorem kdelM_ok (E : World) (p pt pl ps : Nat) (saved : Int) (l : List Kv) (k : Ky) (hb : keyB k = true) (hh : hasL l k = false) : Does Tryz.prog E 12 [.pointer (some ⟨p, 0, none⟩), str k] [kvC p pt pl ps saved, treeA pt l] fun r L => r = .int .i64 9 ∧ L = [kvC p pt pl ps saved, treeA pt l] := by
  have hkey := key_ok E k
  rw [show (decide (k ≠ []) && decide (k.length ≤ 32)) = true from hb] at hkey
  have hget := tget_ok E pt l k
  rw [hh] at hget
  refine Does.of Tryz.func12 rfl Tryz.ntmps12 rfl rfl fun F => ?_
  refine J.norm ?_
  refine J_seq ?_
  refine J_region ?_
  refine L_q (Q_assign rfl) rfl rfl rfl ?_
  refine JL_nil ?_
  refine seqQ_normal ?_
  refine J_seq ?_
  refine J_seq ?_
  refine J_region ?_
  refine L_q (Q_move rfl) rfl rfl rfl ?_
  refine L_q ((Q_peql rfl rfl).as (v' := .bool false) rfl) rfl rfl rfl ?_
  refine L_q (Q_move rfl) rfl rfl rfl ?_
  refine L_q (Q_move rfl) rfl rfl rfl ?_
  refine L_o rfl rfl rfl (O_call [] [0,1,2] hkey rfl rfl ?_)
  rintro _ _ ⟨rfl, rfl⟩
  refine JL.norm ?_
  refine L_q ((Q_not rfl).as (v' := .bool false) rfl) rfl rfl rfl ?_
  refine L_q (Q_pickF rfl rfl) rfl rfl rfl ?_
  refine JL_nil ?_
  refine seqQ_normal ?_
  refine J_condF rfl ?_
  refine J_skip ?_
  refine seqQ_normal ?_
  refine J_seq ?_
  refine J_seq ?_
  refine J_region ?_
  refine L_q (Q_move rfl) rfl rfl rfl ?_
  refine L_q (Q_nilCheck rfl) rfl rfl rfl ?_
  refine L_q (Q_fa0 rfl) rfl rfl rfl ?_
  refine L_q (Q_ld 0 rfl rfl rfl rfl) rfl rfl rfl ?_
  refine L_q (Q_move rfl) rfl rfl rfl ?_
  refine L_o rfl rfl rfl (O_call [1] [0,2] hget rfl rfl ?_)
  rintro _ _ ⟨rfl, rfl⟩
  refine JL.norm ?_
  refine L_q (Q_move rfl) rfl rfl rfl ?_
  refine L_q (Q_extract (v := str (Bt.getL l k)) rfl rfl) rfl rfl rfl ?_
  refine L_q (Q_extract (v := .bool false) rfl rfl) rfl rfl rfl ?_
  refine L_q (Q_assign rfl) rfl rfl rfl ?_
  refine L_q (Q_assign rfl) rfl rfl rfl ?_
  refine JL_nil ?_
  refine seqQ_normal ?_
  refine J_seq ?_
  refine J_region ?_
  refine L_q (Q_move rfl) rfl rfl rfl ?_
  refine L_q ((Q_not rfl).as (v' := .bool true) rfl) rfl rfl rfl ?_
  refine JL_nil ?_
  refine seqQ_normal ?_
  refine J_condT rfl ?_
  refine J_seq ?_
  refine J_region ?_
  refine L_q (Q_assign rfl) rfl rfl rfl ?_
  refine JL_nil ?_
  refine seqQ_normal ?_
  refine J_ret ?_
  refine seqQ_ret ?_
  exact retQ_ret _ [kvC p pt pl ps saved, treeA pt l] (.cons (RV_tmp rfl) .nil) ⟨rfl, rfl⟩ (Ent.re [1, 0, 2] rfl)
theorem kgetN_ok (E : World) (k : Ky) : Does Tryz.prog E 19 [.pointer none, str k] [] fun r L => r = .tuple #[str [], .int .i64 9] ∧ L = [] := by
  refine Does.of Tryz.func19 rfl Tryz.ntmps19 rfl rfl fun F => ?_
  refine J.norm ?_
  refine J_seq ?_
  refine J_region ?_
  refine L_q (Q_assign rfl) rfl rfl rfl ?_
  refine L_q (Q_assign rfl) rfl rfl rfl ?_
  refine JL_nil ?_
  refine seqQ_normal ?_
  refine J_seq ?_
  refine J_seq ?_
  refine J_region ?_
  refine L_q (Q_move rfl) rfl rfl rfl ?_
  refine L_q ((Q_pneq rfl rfl).as (v' := .bool false) rfl) rfl rfl rfl ?_
  refine JL_nil ?_
  refine seqQ_normal ?_
  refine J_condF rfl ?_
  refine J_skip ?_
  refine seqQ_normal ?_
  refine J_seq ?_
  refine J_region ?_
  refine L_q (Q_assign rfl) rfl rfl rfl ?_
  refine L_q (Q_assign rfl) rfl rfl rfl ?_
  refine JL_nil ?_
  refine seqQ_normal ?_
  refine J_ret ?_
  exact retQ_ret _ [] (.cons (RV_tmp rfl) (.cons (RV_tmp rfl) .nil)) ⟨rfl, rfl⟩ (Ent.refl _)
theorem krangeN_ok (E : World) (f to : Ky) (most : Int) : Does Tryz.prog E 15 [.pointer none, str f, str to, .int .i64 most] [] fun r L => r = SV.nil.v ∧ L = [] := by
  refine Does.of Tryz.func15 rfl Tryz.ntmps15 rfl rfl fun F => ?_
  refine J.norm ?_
  refine J_seq ?_
  refine J_region ?_
  refine L_q (Q_assign rfl) rfl rfl rfl ?_
  refine JL_nil ?_
  refine seqQ_normal ?_
  refine J_seq ?_
  refine J_seq ?_
  refine J_region ?_
  refine L_q (Q_move rfl) rfl rfl rfl ?_
  refine L_q ((Q_peql rfl rfl).as (v' := .bool true) rfl) rfl rfl rfl ?_
  refine JL_nil ?_
  refine seqQ_normal ?_
  refine J_condT rfl ?_
  refine J_seq ?_
  refine J_region ?_
  refine L_q (Q_assign rfl) rfl rfl rfl ?_
  refine JL_nil ?_
  refine seqQ_normal ?_
  refine J_ret ?_
  refine seqQ_ret ?_
  exact retQ_ret _ [] (.cons (RV_tmp rfl) .nil) ⟨rfl, rfl⟩ (Ent.refl _)
theorem ksyncN_ok (E : World) : Does Tryz.prog E 13 [.pointer none] [] fun r L => r = .tuple #[] ∧ L = [] := by
  refine Does.of Tryz.func13 rfl Tryz.ntmps13 rfl rfl fun F => ?_
  refine J.norm ?_
  refine J_seq ?_
  refine J_region ?_
  refine L_q (Q_move rfl) rfl rfl rfl ?_
  refine L_q ((Q_pneq rfl rfl).as (v' := .bool false) rfl) rfl rfl rfl ?_
  refine JL_nil ?_
  refine seqQ_normal ?_
  refine J_condF rfl ?_
  refine J_skip ?_
  exact retQ_normal [] [] .nil ⟨rfl, rfl⟩ (Ent.refl _)
theorem kcrashN_ok (E : World) (keep : Int) : Does Tryz.prog E 17 [.pointer none, .int .u64 keep] [] fun r L => r = .tuple #[] ∧ L = [] := by
  refine Does.of Tryz.func17 rfl Tryz.ntmps17 rfl rfl fun F => ?_
  refine J.norm ?_
  refine J_seq ?_
  refine J_seq ?_
  refine J_region ?_
  refine L_q (Q_move rfl) rfl rfl rfl ?_
  refine L_q ((Q_peql rfl rfl).as (v' := .bool true) rfl) rfl rfl rfl ?_
  refine JL_nil ?_
  refine seqQ_normal ?_
  refine J_condT rfl ?_
  refine J_ret ?_
  refine seqQ_ret ?_
  exact retQ_ret [] [] .nil ⟨rfl, rfl⟩ (Ent.refl _)
theorem kseqN_ok (E : World) : Does Tryz.prog E 10 [.pointer none] [] fun r L => r = .int .i64 0 ∧ L = [] := by
  refine Does.of Tryz.func10 rfl Tryz.ntmps10 rfl rfl fun F => ?_
  refine J.norm ?_
  refine J_seq ?_
  refine J_region ?_
  refine L_q (Q_assign rfl) rfl rfl rfl ?_
  refine JL_nil ?_
  refine seqQ_normal ?_
  refine J_seq ?_
  refine J_seq ?_
  refine J_region ?_
  refine L_q (Q_move rfl) rfl rfl rfl ?_
  refine L_q ((Q_peql rfl rfl).as (v' := .bool true) rfl) rfl rfl rfl ?_
  refine JL_nil ?_
  refine seqQ_normal ?_
  refine J_condT rfl ?_
  refine J_seq ?_
  refine J_region ?_
  refine L_q (Q_assign rfl) rfl rfl rfl ?_
  refine JL_nil ?_
  refine seqQ_normal ?_
  refine J_ret ?_
  refine seqQ_ret ?_
  exact retQ_ret _ [] (.cons (RV_tmp rfl) .nil) ⟨rfl, rfl⟩ (Ent.refl _)
theorem ksureN_ok (E : World) : Does Tryz.prog E 16 [.pointer none] [] fun r L => r = .int .i64 0 ∧ L = [] := by
  refine Does.of Tryz.func16 rfl Tryz.ntmps16 rfl rfl fun F => ?_
  refine J.norm ?_
  refine J_seq ?_
  refine J_region ?_
  refine L_q (Q_assign rfl) rfl rfl rfl ?_
  refine JL_nil ?_
  refine seqQ_normal ?_
  refine J_seq ?_
  refine J_seq ?_
  refine J_region ?_
  refine L_q (Q_move rfl) rfl rfl rfl ?_
  refine L_q ((Q_peql rfl rfl).as (v' := .bool true) rfl) rfl rfl rfl ?_
  refine JL_nil ?_
  refine seqQ_normal ?_
  refine J_condT rfl ?_
  refine J_seq ?_
  refine J_region ?_
  refine L_q (Q_assign rfl) rfl rfl rfl ?_
  refine JL_nil ?_
  refine seqQ_normal ?_
  refine J_ret ?_
  refine seqQ_ret ?_
  exact retQ_ret _ [] (.cons (RV_tmp rfl) .nil) ⟨rfl, rfl⟩ (Ent.refl _)
theorem kcpN_ok (E : World) (upto : Int) : Does Tryz.prog E 14 [.pointer none, .int .i64 upto] [] fun r L => r = .int .i64 1 ∧ L = [] := by
  refine Does.of Tryz.func14 rfl Tryz.ntmps14 rfl rfl fun F => ?_
  refine J.norm ?_
  refine J_seq ?_
  refine J_region ?_
  refine L_q (Q_assign rfl) rfl rfl rfl ?_
  refine JL_nil ?_
  refine seqQ_normal ?_
  refine J_seq ?_
  refine J_seq ?_
  refine J_region ?_
  refine L_q (Q_move rfl) rfl rfl rfl ?_
  refine L_q ((Q_peql rfl rfl).as (v' := .bool true) rfl) rfl rfl rfl ?_
  refine JL_nil ?_
  refine seqQ_normal ?_
  refine J_condT rfl ?_
  refine J_seq ?_
  refine J_region ?_
  refine L_q (Q_assign rfl) rfl rfl rfl ?_
  refine JL_nil ?_
  refine seqQ_normal ?_
  refine J_ret ?_
  refine seqQ_ret ?_
  exact retQ_ret _ [] (.cons (RV_tmp rfl) .nil) ⟨rfl, rfl⟩ (Ent.refl _)
end Go.Proofs
/- A store as one chunk, and what is done to it. -/
set_option autoImplicit false
namespace Go.Proofs
open Go.SL Go.Proofs.Bt
def kvL (p : Nat) (K : Kst) (q : Nat × Nat × Nat) : List HProp := [kvC p q.1 q.2.1 q.2.2 (K.saved : Int), treeA q.1 K.t, segA q.2.1 K.g, snapA q.2.2 K.a K.b]
def kvA (p : Nat) (K : Kst) : HProp := hex fun q : Nat × Nat × Nat => stars (kvL p K q)
theorem Ent.kv {p pt pl ps : Nat} {K : Kst} {L : List HProp} : Ent (kvC p pt pl ps (K.saved : Int) :: treeA pt K.t :: segA pl K.g :: snapA ps K.a K.b :: L) (kvA p K :: L) := fun E w h => by
  have h1 := Sat.rot (A := kvL p K (pt, pl, ps)) (B := L) h
  have h4 : Sat E w (stars (kvL p K (pt, pl, ps)) :: L) := Sat.rot (A := L) h1.fold
  exact h4.mkex (f := fun q : Nat × Nat × Nat => stars (kvL p K q)) (pt, pl, ps)
theorem Does.kv {P : Program} {E : World} {f : Nat} {args : List Value} {p : Nat} {K : Kst} {L : List HProp} {Q : Value → List HProp → Prop} (h : ∀ pt pl ps : Nat, Does P E f args (kvC p pt pl ps (K.saved : Int) :: treeA pt K.t :: segA pl K.g :: snapA ps K.a K.b :: L) Q) : Does P E f args (kvA p K :: L) Q := fun F w hs => by
  obtain ⟨q, hq⟩ := Sat.ex (f := fun q : Nat × Nat × Nat => stars (kvL p K q)) (R := L ++ [F]) hs
  exact h q.1 q.2.1 q.2.2 F w (Sat.rot (A := L ++ [F]) (hq.rot (A := [_]) (B := L ++ [F])).unfold)
theorem putOk_t {k v : Ky} (h : putOk k v = true) : keyB k = true ∧ v.length ≤ 1024 := by simpa [putOk] using h
theorem logK_eq {K : Kst} {c : Chg} : logK K c = ⟨(appL K.g (chB c)).1, K.a, K.b, K.saved, if (appL K.g (chB c)).2.2 = 0 then chL K.t c else K.t⟩ := by
  unfold logK
  split
  · rfl
  · rename_i h; rw [app_err h]
theorem Inv.put {K : Kst} {base : List Kv} {n c : Nat} (k v : Ky) (h : Inv K base n c) : Inv (putK K k v) base n (c + 1) := by
  unfold putK
  split
  · rename_i hp
    obtain ⟨h1, h2⟩ := putOk_t hp
    exact h.log (readC_put k v (by have := keyB_len h1; omega) (by omega))
  · exact h.mono (by omega)
theorem Inv.del {K : Kst} {base : List Kv} {n c : Nat} (k : Ky) (h : Inv K base n c) : Inv (delK K k) base n (c + 1) := by
  unfold delK
  split
  · rename_i hp
    split
    · exact h.log (readC_del k (by have := keyB_len hp; omega))
    · exact h.mono (by omega)
  · exact h.mono (by omega)
attribute [local irreducible] J JL QOp JOp seqQ blockQ loopQ retQ slc cel hex star pur stars Does RV Ent pAt scopeQ
attribute [local irreducible] nodeA nodeX treeA segA snapA
section
variable (E : World) (p : Nat) {K : Kst} {base : List Kv} {n c : Nat}
theorem anew_ok (z : Int) : Does Tryz.prog E 9 [.int .i64 z] [] fun v L => ∃ p : Nat, v = .pointer (some ⟨p, 0, none⟩) ∧ L = [kvA p (newK z)] := by
  refine Does.post (knew_ok E z) (fun F => Ent.refl _) ?_
  rintro v L ⟨p, pt, pl, ps, hv, rfl⟩
  exact ⟨_, ⟨p, hv, rfl⟩, fun F => Ent.kv (K := newK z)⟩
theorem aput_ok (hI : Inv K base n c) (hc : c ≤ 1000000) (k v : Ky) : Does Tryz.prog E 11 [.pointer (some ⟨p, 0, none⟩), str k, str v] [kvA p K] fun r L => r = .int .i64 (putE K k v) ∧ L = [kvA p (putK K k v)] := by
  have hlen := hI.len
  cases hp : putOk k v with
  | false =>
    have e1 : putE K k v = 1 := by unfold putE; rw [hp]; rfl
    have e2 : putK K k v = K := by unfold putK; rw [hp]; rfl
    rw [e1, e2]
    refine Does.post (Does.frame (R := [kvA p K]) (kputB_ok E p k v hp)) (fun F => Ent.refl _) ?_
    rintro r _ ⟨_, ⟨hv, rfl⟩, rfl⟩
    exact ⟨_, ⟨hv, rfl⟩, fun F => Ent.refl _⟩
  | true =>
    obtain ⟨h1, h2⟩ := putOk_t hp
    have e1 : putE K k v = (appL K.g (chB (.put k v))).2.2 := by unfold putE; rw [if_pos hp]
    have e2 : putK K k v = logK K (.put k v) := by unfold putK; rw [if_pos hp]
    rw [e1, e2]
    refine Does.kv fun pt pl ps => ?_
    refine Does.post (Does.frame (R := [snapA ps K.a K.b]) (kput_ok E p pt pl ps c (K.saved : Int) K.g K.t k v hI.g hc (by omega) h1 h2)) (fun F => Ent.refl _) ?_
    rintro r _ ⟨_, ⟨hv, rfl⟩, rfl⟩
    refine ⟨_, ⟨hv, rfl⟩, fun F => ?_⟩
    rw [logK_eq]
    exact Ent.kv (K := ⟨(appL K.g (chB (.put k v))).1, K.a, K.b, K.saved, if (appL K.g (chB (.put k v))).2.2 = 0 then chL K.t (.put k v) else K.t⟩)
theorem adel_ok (hI : Inv K base n c) (hc : c ≤ 1000000) (k : Ky) : Does Tryz.prog E 12 [.pointer (some ⟨p, 0, none⟩), str k] [kvA p K] fun r L => r = .int .i64 (delE K k) ∧ L = [kvA p (delK K k)] := by
  have hlen := hI.len
  cases hp : keyB k with
  | false =>
    have e1 : delE K k = 1 := by unfold delE; rw [hp]; rfl
    have e2 : delK K k = K := by unfold delK; rw [hp]; rfl
    rw [e1, e2]
    refine Does.post (Does.frame (R := [kvA p K]) (kdelB_ok E p k hp)) (fun F => Ent.refl _) ?_
    rintro r _ ⟨_, ⟨hv, rfl⟩, rfl⟩
    exact ⟨_, ⟨hv, rfl⟩, fun F => Ent.refl _⟩
  | true =>
    cases hh : hasL K.t k with
    | false =>
      have e1 : delE K k = 9 := by unfold delE; rw [hp, hh]; rfl
      have e2 : delK K k = K := by unfold delK; rw [hp, hh]; rfl
      rw [e1, e2]
      refine Does.kv fun pt pl ps => ?_
      refine Does.post (Does.frame (R := [segA pl K.g, snapA ps K.a K.b]) (kdelM_ok E p pt pl ps (K.saved : Int) K.t k hp hh)) (fun F => Ent.refl _) ?_
      rintro r _ ⟨_, ⟨hv, rfl⟩, rfl⟩
      exact ⟨_, ⟨hv, rfl⟩, fun F => Ent.kv⟩
    | true =>
      have e1 : delE K k = (appL K.g (chB (.del k))).2.2 := by unfold delE; rw [if_pos hp, if_pos hh]
      have e2 : delK K k = logK K (.del k) := by unfold delK; rw [if_pos hp, if_pos hh]
      rw [e1, e2]
      refine Does.kv fun pt pl ps => ?_
      refine Does.post (Does.frame (R := [snapA ps K.a K.b]) (kdel_ok E p pt pl ps c (K.saved : Int) K.g K.t k hI.g hc (by omega) hp hh)) (fun F => Ent.refl _) ?_
      rintro r _ ⟨_, ⟨hv, rfl⟩, rfl⟩
      refine ⟨_, ⟨hv, rfl⟩, fun F => ?_⟩
      rw [logK_eq]
      exact Ent.kv (K := ⟨(appL K.g (chB (.del k))).1, K.a, K.b, K.saved, if (appL K.g (chB (.del k))).2.2 = 0 then chL K.t (.del k) else K.t⟩)
theorem aget_ok (k : Ky) : Does Tryz.prog E 19 [.pointer (some ⟨p, 0, none⟩), str k] [kvA p K] fun r L => r = .tuple #[str (Bt.getL K.t k), .int .i64 (if hasL K.t k = true then 0 else 9)] ∧ L = [kvA p K] := by
  refine Does.kv fun pt pl ps => ?_
  refine Does.post (Does.frame (R := [segA pl K.g, snapA ps K.a K.b]) (kget_ok E p pt pl ps (K.saved : Int) K.t k)) (fun F => Ent.refl _) ?_
  rintro r _ ⟨_, ⟨hv, rfl⟩, rfl⟩
  exact ⟨_, ⟨hv, rfl⟩, fun F => Ent.kv⟩
theorem arange_ok (hI : Inv K base n c) (f to : Ky) (most : Int) : Does Tryz.prog E 15 [.pointer (some ⟨p, 0, none⟩), str f, str to, .int .i64 most] [kvA p K] fun r L => ∃ S : SV, r = S.v ∧ L = [kvA p K, slc tKv true S (rngL K.t f to most)] := by
  have hlen := hI.len
  refine Does.kv fun pt pl ps => ?_
  refine Does.post (Does.frame (R := [segA pl K.g, snapA ps K.a K.b]) (krange_ok E p pt pl ps (K.saved : Int) K.t f to most (by omega))) (fun F => Ent.refl _) ?_
  rintro r _ ⟨_, ⟨S, hv, rfl⟩, rfl⟩
  exact ⟨_, ⟨S, hv, rfl⟩, fun F => (Ent.pick [0, 1, 3, 4, 2, 5] [kvC p pt pl ps (K.saved : Int), treeA pt K.t, slc tKv true S (rngL K.t f to most), segA pl K.g, snapA ps K.a K.b, F] rfl).trans Ent.kv⟩
theorem aseq_ok (hI : Inv K base n c) (hc : c ≤ 1000000) : Does Tryz.prog E 10 [.pointer (some ⟨p, 0, none⟩)] [kvA p K] fun r L => r = .int .i64 (nextOf K.g.fs : Int) ∧ L = [kvA p K] := by
  refine Does.kv fun pt pl ps => ?_
  refine Does.post (Does.frame (R := [treeA pt K.t, snapA ps K.a K.b]) (kseq_ok E p pt pl ps c (K.saved : Int) K.g hI.g hc)) (fun F => Ent.pick [0, 2, 1, 3, 4] [kvC p pt pl ps (K.saved : Int), treeA pt K.t, segA pl K.g, snapA ps K.a K.b, F] rfl) ?_
  rintro r _ ⟨_, ⟨hv, rfl⟩, rfl⟩
  exact ⟨_, ⟨hv, rfl⟩, fun F => (Ent.pick [0, 2, 1, 3, 4] [kvC p pt pl ps (K.saved : Int), segA pl K.g, treeA pt K.t, snapA ps K.a K.b, F] rfl).trans Ent.kv⟩
theorem asure_ok : Does Tryz.prog E 16 [.pointer (some ⟨p, 0, none⟩)] [kvA p K] fun r L => r = .int .i64 ((max K.g.sure K.saved : Nat) : Int) ∧ L = [kvA p K] := by
  refine Does.kv fun pt pl ps => ?_
  refine Does.post (Does.frame (R := [treeA pt K.t, snapA ps K.a K.b]) (ksure_ok E p pt pl ps (K.saved : Int) K.g)) (fun F => Ent.pick [0, 2, 1, 3, 4] [kvC p pt pl ps (K.saved : Int), treeA pt K.t, segA pl K.g, snapA ps K.a K.b, F] rfl) ?_
  rintro r _ ⟨_, ⟨hv, rfl⟩, rfl⟩
  exact ⟨_, ⟨by rw [hv]; congr 1; omega, rfl⟩, fun F => (Ent.pick [0, 2, 1, 3, 4] [kvC p pt pl ps (K.saved : Int), segA pl K.g, treeA pt K.t, snapA ps K.a K.b, F] rfl).trans Ent.kv⟩
theorem async_ok (hI : Inv K base n c) (hc : c ≤ 1000000) : Does Tryz.prog E 13 [.pointer (some ⟨p, 0, none⟩)] [kvA p K] fun r L => r = .tuple #[] ∧ L = [kvA p (syncK K)] := by
  refine Does.kv fun pt pl ps => ?_
  refine Does.post (Does.frame (R := [treeA pt K.t, snapA ps K.a K.b]) (ksync_ok E p pt pl ps c (K.saved : Int) K.g hI.g hc)) (fun F => Ent.pick [0, 2, 1, 3, 4] [kvC p pt pl ps (K.saved : Int), treeA pt K.t, segA pl K.g, snapA ps K.a K.b, F] rfl) ?_
  rintro r _ ⟨_, ⟨hv, rfl⟩, rfl⟩
  exact ⟨_, ⟨hv, rfl⟩, fun F => (Ent.pick [0, 2, 1, 3, 4] [kvC p pt pl ps (K.saved : Int), segA pl (syncL K.g), treeA pt K.t, snapA ps K.a K.b, F] rfl).trans (Ent.kv (K := syncK K))⟩
theorem acp_ok (hI : Inv K base n c) (hc : c ≤ 1000000) (upto : Int) : Does Tryz.prog E 14 [.pointer (some ⟨p, 0, none⟩), .int .i64 upto] [kvA p K] fun r L => r = .int .i64 (cpE K.g K.t K.a K.b upto) ∧ L = [kvA p (cpK K upto)] := by
  have hlen := hI.len
  have hw := hI.wtt
  refine Does.kv fun pt pl ps => ?_
  refine Does.post (kcp_ok E p pt pl ps c (K.saved : Int) K.g K.t K.a K.b upto hI.g hc (by omega) (by rw [texts_wt]; omega) hI.la hI.lb) (fun F => Ent.refl _) ?_
  rintro r _ ⟨hv, rfl⟩
  refine ⟨_, ⟨hv, rfl⟩, fun F => ?_⟩
  unfold cpK cpS cpW
  dsimp only
  split
  · exact Ent.kv (K := ⟨(dropL (syncL K.g) (nextOf (syncL K.g).fs)).1, (doW K.a K.b (bodyK (nextOf (syncL K.g).fs) K.t) upto).1, (doW K.a K.b (bodyK (nextOf (syncL K.g).fs) K.t) upto).2.1, nextOf (syncL K.g).fs, K.t⟩)
  · exact Ent.kv (K := ⟨syncL K.g, (doW K.a K.b (bodyK (nextOf (syncL K.g).fs) K.t) upto).1, (doW K.a K.b (bodyK (nextOf (syncL K.g).fs) K.t) upto).2.1, K.saved, K.t⟩)
theorem acrash_ok (hI : Inv K base n c) (hc : c ≤ 800000) (keep : Nat) (hk : keep < 2 ^ 64) : Does Tryz.prog E 17 [.pointer (some ⟨p, 0, none⟩), .int .u64 (keep : Int)] [kvA p K] fun r L => r = .tuple #[] ∧ L = [kvA p (crashK K base keep)] := by
  have h2 := hI.crash keep
  refine Does.kv fun pt pl ps => ?_
  refine Does.post (kcrash_ok E p pt pl ps c (K.saved : Int) K.g K.t K.a K.b K.saved keep base hI.g hc (hI.told (by omega)) hk h2.fi h2.sn) (fun F => Ent.refl _) ?_
  rintro r _ ⟨q, hv, rfl⟩
  exact ⟨_, ⟨hv, rfl⟩, fun F => Ent.kv (K := crashK K base keep)⟩
end
end Go.Proofs
/- Chapter 38's example. -/
set_option autoImplicit false
namespace Go.Proofs
open Go.SL Go.Proofs.Bt
theorem cp_whole {K : Kst} {base : List Kv} {n c : Nat} {upto : Int} (h : Inv K base n c) (hn : n < 1000) (hb : (bodyK (nextOf (syncL K.g).fs) K.t).length ≤ 32768) (hw : wholeN (bodyK (nextOf (syncL K.g).fs) K.t) upto) :
    ∃ a b : List UInt8, cpK K upto = ⟨(dropL (syncL K.g) (nextOf (syncL K.g).fs)).1, a, b, nextOf (syncL K.g).fs, K.t⟩ ∧ cpE K.g K.t K.a K.b upto = 0 ∧ Inv (cpK K upto) K.t (n + 1) c := by
  have he := doW_ok (a := K.a) (b := K.b) (upto := upto) hb
  have ht := write_whole h.tl hn hb hw
  have hs := h.sync
  have hl := doW_len (body := bodyK (nextOf (syncL K.g).fs) K.t) (upto := upto) h.la h.lb
  have e : cpK K upto = ⟨(dropL (syncL K.g) (nextOf (syncL K.g).fs)).1, (cpW K upto).1, (cpW K upto).2.1, nextOf (syncL K.g).fs, K.t⟩ := by
    unfold cpK cpW
    rw [if_pos ⟨he, by rw [ht.load.2, h.tl.load.2]; omega⟩]
  refine ⟨_, _, e, he, ?_⟩
  rw [e]
  refine ⟨hs.g.drop _, hs.sa.drop _, by rw [if_neg (by omega)]; exact ht, fun h0 => by omega, hl.1, hl.2, h.tup, ?_, ?_, ?_, ?_⟩
  · have : (bodyK (nextOf (syncL K.g).fs) K.t).length = 4 + wt K.t := by rw [← texts_wt]; simp [bodyK, four_len]
    omega
  · have hd := drop_first (syncL K.g).fs (nextOf (syncL K.g).fs : Int) hs.g.ch
    show firstOf ((syncL K.g).fs.drop _) ≤ nextOf (syncL K.g).fs
    have h3 : firstOf (syncL K.g).fs ≤ K.saved := hs.fi
    have h4 : K.saved ≤ nextOf (syncL K.g).fs := hs.sn
    rcases hd.2 with hd | hd <;> omega
  · show nextOf (syncL K.g).fs ≤ (syncL K.g).sure
    rw [sync_sure h.sa, sync_next]
    exact Nat.le_refl _
  · show K.t = rep _ _ _ (nextOf ((syncL K.g).fs.drop _) - nextOf (syncL K.g).fs)
    rw [drop_next, Nat.sub_self]; rfl
/-- A crash that keeps nothing, where j records are sure. -/
theorem crash_none {z first sure : Nat} {l m : List (List UInt8)} (hl : ∀ t ∈ l, t.length ≤ 4096) (hz : endTo 0 (text l).length (text m).length = (text l).length) : crashL ⟨z, sure, [⟨first, l ++ m, (text l).length⟩]⟩ 0 = ⟨z, first + l.length, [⟨first, l, (text l).length⟩]⟩ := by
  have h1 : tear (⟨first, l ++ m, (text l).length⟩ : Fl).d 0 = text l := by
    have hb : (⟨first, l ++ m, (text l).length⟩ : Fl).d.b = text l ++ text m := text_append l m
    have hs : (⟨first, l ++ m, (text l).length⟩ : Fl).d.s = (text l).length := rfl
    have hsu := tear_sure (⟨first, l ++ m, (text l).length⟩ : Fl).d 0
    rw [hb, hs, List.take_left] at hsu
    have hle : (tear (⟨first, l ++ m, (text l).length⟩ : Fl).d 0).length ≤ (text l).length := by
      unfold tear
      rw [hb, hs, List.length_append, Nat.add_sub_cancel_left, hz, List.length_take]
      omega
    rw [List.take_of_length_le hle] at hsu
    exact hsu
  have h4 := prefixR_app l [] hl
  rw [List.append_nil, prefixR_stop (s := []) (by decide)] at h4
  have h5 : crashF ⟨first, l ++ m, (text l).length⟩ 0 = ⟨first, l, (text l).length⟩ := by
    simp only [crashF, h1, h4, List.append_nil, Nat.add_zero]
  have h6 : onLast [⟨first, l ++ m, (text l).length⟩] (fun f => crashF f 0) = [⟨first, l, (text l).length⟩] := by
    show [crashF ⟨first, l ++ m, (text l).length⟩ 0] = _
    rw [h5]
  simp only [crashL, reduceCtorEq, if_false, h6]
  rfl
def xa : List UInt8 := chB (.put [97] [49])
def xb : List UInt8 := chB (.put [98] [50])
def xc : List UInt8 := chB (.put [99] [51])
def xd : List UInt8 := chB (.del [97])
def gk1 : Lg := ⟨200, 0, [⟨0, [xa], 0⟩]⟩
def gk3 : Lg := ⟨200, 1, [⟨0, [xa] ++ [xb], (text [xa]).length⟩]⟩
def gk4 : Lg := ⟨200, 1, [⟨0, [xa], (text [xa]).length⟩]⟩
def gk5 : Lg := ⟨200, 1, [⟨0, [xa] ++ [xc], (text [xa]).length⟩]⟩
def gk6 : Lg := ⟨200, 2, [⟨0, [xa, xc], (text [xa, xc]).length⟩]⟩
def gk7 : Lg := ⟨200, 2, [⟨0, [xa, xc] ++ [xd], (text [xa, xc]).length⟩]⟩
def ta : List Kv := [⟨[97], [49]⟩]
def tab : List Kv := [⟨[97], [49]⟩, ⟨[98], [50]⟩]
def tac : List Kv := [⟨[97], [49]⟩, ⟨[99], [51]⟩]
def tc : List Kv := [⟨[99], [51]⟩]
theorem ka1 : putK (newK 200) [97] [49] = ⟨gk1, [], [], 0, ta⟩ := rfl
theorem ka1e : putE (newK 200) [97] [49] = 0 := rfl
theorem ka2 : syncK ⟨gk1, [], [], 0, ta⟩ = ⟨⟨200, 1, [⟨0, [xa], (text [xa]).length⟩]⟩, [], [], 0, ta⟩ := rfl
theorem ka3 : putK ⟨gk4, [], [], 0, ta⟩ [98] [50] = ⟨gk3, [], [], 0, tab⟩ := rfl
theorem ka3e : putE ⟨gk4, [], [], 0, ta⟩ [98] [50] = 0 := rfl
theorem xlen {t : List UInt8} (h : t ∈ [xa, xc]) : t.length ≤ 4096 := by
  simp only [List.mem_cons, List.not_mem_nil, or_false] at h
  rcases h with rfl | rfl <;> decide
theorem ka4g : crashL gk3 0 = gk4 := crash_none (fun t ht => xlen (by simp at ht; simp [ht])) (by decide)
theorem ka4 : crashK ⟨gk3, [], [], 0, tab⟩ [] 0 = ⟨gk4, [], [], 0, ta⟩ := by
  unfold crashK
  rw [ka4g]
  have h1 : rep gk4.fs 0 [] (nextOf gk4.fs - 0) = chL [] (readC xa) := rfl
  have h2 : readC xa = .put [97] [49] := readC_put [97] [49] (by decide) (by decide)
  dsimp only
  rw [h1, h2]; rfl
theorem ka5 : putK ⟨gk4, [], [], 0, ta⟩ [99] [51] = ⟨gk5, [], [], 0, tac⟩ := rfl
theorem ka5e : putE ⟨gk4, [], [], 0, ta⟩ [99] [51] = 0 := rfl
theorem ka6 : (dropL (syncL gk5) (nextOf (syncL gk5).fs)).1 = gk6 := rfl
theorem ka7 (a b : List UInt8) : delK ⟨gk6, a, b, 2, tac⟩ [97] = ⟨gk7, a, b, 2, tc⟩ := rfl
theorem ka7e (a b : List UInt8) : delE ⟨gk6, a, b, 2, tac⟩ [97] = 0 := rfl
theorem ka8g : crashL gk7 0 = gk6 := crash_none (fun t ht => xlen ht) (by decide)
theorem ka8 (a b : List UInt8) : crashK ⟨gk7, a, b, 2, tc⟩ tac 0 = ⟨gk6, a, b, 2, tac⟩ := by
  unfold crashK
  rw [ka8g]; rfl
attribute [local irreducible] J JL QOp JOp seqQ blockQ loopQ retQ slc cel hex star pur stars Does RV Ent pAt scopeQ
attribute [local irreducible] nodeA nodeX treeA segA snapA kvA
theorem awake38_ok (E : World) : Does Tryz.prog E 8 [] [] fun v L => v = .bool true ∧ L = [] := by
  have i0 := inv_new 200
  have i1 := i0.put [97] [49]
  rw [ka1] at i1
  have i2 := i1.sync
  rw [ka2] at i2
  have i3 := i2.put [98] [50]
  have e3 := ka3
  unfold gk4 at e3
  rw [e3] at i3
  have i4 := i3.crash 0
  rw [ka4] at i4
  have i5 := i4.put [99] [51]
  rw [ka5] at i5
  obtain ⟨sa, sb, e6, e6e, i6⟩ := cp_whole (upto := -1) i5 (by decide) (by decide) (.inl (by decide))
  have e6' : cpK ⟨gk5, [], [], 0, tac⟩ (-1) = ⟨gk6, sa, sb, 2, tac⟩ := e6
  rw [e6'] at i6
  have i6 : Inv ⟨gk6, sa, sb, 2, tac⟩ tac 1 10000 := Inv.mono i6 (by decide)
  have i7 := i6.del [97]
  rw [ka7] at i7
  have i8' := i7.crash 0
  rw [ka8] at i8'
  have p0 := anew_ok E 200
  have p1 := fun p => aput_ok E p i0 (by decide) [97] [49]
  rw [ka1, ka1e] at p1
  have p2 := fun p => async_ok E p i1 (by decide)
  rw [ka2] at p2
  have p3 := fun p => aput_ok E p i2 (by decide) [98] [50]
  have e3e := ka3e
  unfold gk4 at e3e
  rw [e3, e3e] at p3
  have p3s := fun p => aseq_ok E p i3 (by decide)
  have p3u := fun p => asure_ok E p (K := ⟨gk3, [], [], 0, tab⟩)
  have p4 := fun p => acrash_ok E p i3 (by decide) 0 (by decide)
  rw [ka4] at p4
  have p4g := fun p => aget_ok E p (K := ⟨gk4, [], [], 0, ta⟩) [98]
  have p5 := fun p => aput_ok E p i4 (by decide) [99] [51]
  rw [ka5, ka5e] at p5
  have p6 := fun p => acp_ok E p i5 (by decide) (-1)
  rw [e6', e6e] at p6
  have p7 := fun p => adel_ok E p i6 (by decide) [97]
  rw [ka7, ka7e] at p7
  have p8 : ∀ p, Does Tryz.prog E 17 [.pointer (some ⟨p, 0, none⟩), .int .u64 0] [kvA p ⟨gk7, sa, sb, 2, tc⟩] fun r L => r = .tuple #[] ∧ L = [kvA p ⟨gk6, sa, sb, 2, tac⟩] := fun p => by
    have := acrash_ok E p i7 (by decide) 0 (by decide)
    rw [ka8] at this
    exact this
  have p8g := fun p => aget_ok E p (K := ⟨gk6, sa, sb, 2, tac⟩) [97]
  have p8r := fun p => arange_ok E p i8' [] [] 9
  have e8r : rngL (Kst.mk gk6 sa sb 2 tac).t [] [] 9 = tac := rngL_all (l := tac) (by decide) (by decide)
  rw [e8r] at p8r
  have p9 := fun p => adel_ok E p i8' (by decide) [120]
  rw [show delE ⟨gk6, sa, sb, 2, tac⟩ [120] = 9 from rfl, show delK ⟨gk6, sa, sb, 2, tac⟩ [120] = ⟨gk6, sa, sb, 2, tac⟩ from rfl] at p9
  have p10 := fun p => aput_ok E p i8' (by decide) [] []
  rw [show putE ⟨gk6, sa, sb, 2, tac⟩ [] [] = 1 from rfl, show putK ⟨gk6, sa, sb, 2, tac⟩ [] [] = ⟨gk6, sa, sb, 2, tac⟩ from rfl] at p10
  clear i0 i1 i2 i3 i4 i5 i6 i7 i8' e3 e3e e6 e6' e6e e8r
  refine Does.of Tryz.func8 rfl Tryz.ntmps8 rfl rfl fun F => ?_
  refine J.norm ?_
  refine J_seq ?_
  refine J_region ?_
  refine L_q (Q_assign rfl) rfl rfl rfl ?_
  refine JL_nil ?_
  refine seqQ_normal ?_
  refine J_seq ?_
  refine J_region ?_
  refine L_o rfl rfl rfl (O_call [] [0] p0 rfl rfl ?_)
  rintro _ _ ⟨p, rfl, rfl⟩
  refine JL.norm ?_
  refine L_q (Q_assign rfl) rfl rfl rfl ?_
  refine JL_nil ?_
  refine seqQ_normal ?_
  refine J_seq ?_
  refine J_seq ?_
  refine J_region ?_
  refine L_q (Q_move rfl) rfl rfl rfl ?_
  refine L_q ((Q_peql rfl rfl).as (v' := .bool false) rfl) rfl rfl rfl ?_
  refine JL_nil ?_
  refine seqQ_normal ?_
  refine J_condF rfl ?_
  refine J_skip ?_
  refine seqQ_normal ?_
  refine J_seq ?_
  refine J_region ?_
  refine L_q (Q_move rfl) rfl rfl rfl ?_
  refine L_o rfl rfl rfl (O_call [0] [1] (p1 p) rfl rfl ?_)
  rintro _ _ ⟨rfl, rfl⟩
  refine JL.norm ?_
  refine L_q (Q_assign rfl) rfl rfl rfl ?_
  refine JL_nil ?_
  refine seqQ_normal ?_
  refine J_seq ?_
  refine J_region ?_
  refine L_q (Q_move rfl) rfl rfl rfl ?_
  refine L_o rfl rfl rfl (O_call [0] [1] (p2 p) rfl rfl ?_)
  rintro _ _ ⟨rfl, rfl⟩
  refine JL.norm ?_
  refine JL_nil ?_
  refine seqQ_normal ?_
  refine J_seq ?_
  refine J_region ?_
  refine L_q (Q_move rfl) rfl rfl rfl ?_
  refine L_o rfl rfl rfl (O_call [0] [1] (p3 p) rfl rfl ?_)
  rintro _ _ ⟨rfl, rfl⟩
  refine JL.norm ?_
  refine L_q (Q_assign rfl) rfl rfl rfl ?_
  refine JL_nil ?_
  refine seqQ_normal ?_
  refine J_seq ?_
  refine J_region ?_
  refine L_q (Q_move rfl) rfl rfl rfl ?_
  refine L_o rfl rfl rfl (O_call [0] [1] (p3s p) rfl rfl ?_)
  rintro _ _ ⟨rfl, rfl⟩
  refine JL.norm ?_
  refine L_q (Q_move rfl) rfl rfl rfl ?_
  refine L_o rfl rfl rfl (O_call [0] [1] (p3u p) rfl rfl ?_)
  rintro _ _ ⟨rfl, rfl⟩
  refine JL.norm ?_
  refine L_q (Q_assign rfl) rfl rfl rfl ?_
  refine L_q (Q_assign rfl) rfl rfl rfl ?_
  refine JL_nil ?_
  refine seqQ_normal ?_
  refine J_seq ?_
  refine J_region ?_
  refine L_q (Q_move rfl) rfl rfl rfl ?_
  refine L_o rfl rfl rfl (O_call [0] [1] (p4 p) rfl rfl ?_)
  rintro _ _ ⟨rfl, rfl⟩
  refine JL.norm ?_
  refine JL_nil ?_
  refine seqQ_normal ?_
  refine J_seq ?_
  refine J_region ?_
  refine L_q (Q_move rfl) rfl rfl rfl ?_
  refine L_o rfl rfl rfl (O_call [0] [1] (p4g p) rfl rfl ?_)
  rintro _ _ ⟨rfl, rfl⟩
  refine JL.norm ?_
  refine L_q (Q_move rfl) rfl rfl rfl ?_
  refine L_q (Q_extract (v := str []) rfl rfl) rfl rfl rfl ?_
  refine L_q (Q_extract (v := .int .i64 9) rfl rfl) rfl rfl rfl ?_
  refine L_q (Q_assign rfl) rfl rfl rfl ?_
  refine L_q (Q_assign rfl) rfl rfl rfl ?_
  refine JL_nil ?_
  refine seqQ_normal ?_
  refine J_seq ?_
  refine J_region ?_
  refine L_q (Q_move rfl) rfl rfl rfl ?_
  refine L_o rfl rfl rfl (O_call [0] [1] (p5 p) rfl rfl ?_)
  rintro _ _ ⟨rfl, rfl⟩
  refine JL.norm ?_
  refine L_q (Q_assign rfl) rfl rfl rfl ?_
  refine JL_nil ?_
  refine seqQ_normal ?_
  refine J_seq ?_
  refine J_region ?_
  refine L_q (Q_move rfl) rfl rfl rfl ?_
  refine L_o rfl rfl rfl (O_call [0] [1] (p6 p) rfl rfl ?_)
  rintro _ _ ⟨rfl, rfl⟩
  refine JL.norm ?_
  refine L_q (Q_assign rfl) rfl rfl rfl ?_
  refine JL_nil ?_
  refine seqQ_normal ?_
  refine J_seq ?_
  refine J_region ?_
  refine L_q (Q_move rfl) rfl rfl rfl ?_
  refine L_o rfl rfl rfl (O_call [0] [1] (p7 p) rfl rfl ?_)
  rintro _ _ ⟨rfl, rfl⟩
  refine JL.norm ?_
  refine L_q (Q_assign rfl) rfl rfl rfl ?_
  refine JL_nil ?_
  refine seqQ_normal ?_
  refine J_seq ?_
  refine J_region ?_
  refine L_q (Q_move rfl) rfl rfl rfl ?_
  refine L_o rfl rfl rfl (O_call [0] [1] (p8 p) rfl rfl ?_)
  rintro _ _ ⟨rfl, rfl⟩
  refine JL.norm ?_
  refine JL_nil ?_
  refine seqQ_normal ?_
  refine J_seq ?_
  refine J_region ?_
  refine L_q (Q_move rfl) rfl rfl rfl ?_
  refine L_o rfl rfl rfl (O_call [0] [1] (p8g p) rfl rfl ?_)
  rintro _ _ ⟨rfl, rfl⟩
  refine JL.norm ?_
  refine L_q (Q_move rfl) rfl rfl rfl ?_
  refine L_q (Q_extract (v := str [49]) rfl rfl) rfl rfl rfl ?_
  refine L_q (Q_extract (v := .int .i64 0) rfl rfl) rfl rfl rfl ?_
  refine L_q (Q_assign rfl) rfl rfl rfl ?_
  refine L_q (Q_assign rfl) rfl rfl rfl ?_
  refine JL_nil ?_
  refine seqQ_normal ?_
  refine J_seq ?_
  refine J_region ?_
  refine L_q (Q_move rfl) rfl rfl rfl ?_
  refine L_o rfl rfl rfl (O_call [0] [1] (p8r p) rfl rfl ?_)
  rintro _ _ ⟨S, rfl, rfl⟩
  refine JL.norm ?_
  refine L_q (Q_assign rfl) rfl rfl rfl ?_
  refine JL_nil ?_
  refine seqQ_normal ?_
  refine J_seq ?_
  refine J_region ?_
  refine L_q (Q_move rfl) rfl rfl rfl ?_
  refine L_q ((Q_eql rfl rfl).as (v' := .bool true) rfl) rfl rfl rfl ?_
  refine L_q (Q_move rfl) rfl rfl rfl ?_
  refine L_q (Q_move rfl) rfl rfl rfl ?_
  refine L_q ((Q_eql rfl rfl).as (v' := .bool true) rfl) rfl rfl rfl ?_
  refine L_q (Q_pickT rfl rfl) rfl rfl rfl ?_
  refine L_q (Q_move rfl) rfl rfl rfl ?_
  refine L_q (Q_move rfl) rfl rfl rfl ?_
  refine L_q ((Q_eql rfl rfl).as (v' := .bool true) rfl) rfl rfl rfl ?_
  refine L_q (Q_pickT rfl rfl) rfl rfl rfl ?_
  refine L_q (Q_move rfl) rfl rfl rfl ?_
  refine L_q (Q_move rfl) rfl rfl rfl ?_
  refine L_q ((Q_eql rfl rfl).as (v' := .bool true) rfl) rfl rfl rfl ?_
  refine L_q (Q_pickT rfl rfl) rfl rfl rfl ?_
  refine L_q (Q_move rfl) rfl rfl rfl ?_
  refine L_q (Q_move rfl) rfl rfl rfl ?_
  refine L_q ((Q_eql rfl rfl).as (v' := .bool true) rfl) rfl rfl rfl ?_
  refine L_q (Q_pickT rfl rfl) rfl rfl rfl ?_
  refine L_q (Q_move rfl) rfl rfl rfl ?_
  refine L_q (Q_move rfl) rfl rfl rfl ?_
  refine L_q ((Q_eql rfl rfl).as (v' := .bool true) rfl) rfl rfl rfl ?_
  refine L_q (Q_pickT rfl rfl) rfl rfl rfl ?_
  refine L_q (Q_move rfl) rfl rfl rfl ?_
  refine L_q (Q_move rfl) rfl rfl rfl ?_
  refine L_q ((Q_eql rfl rfl).as (v' := .bool true) rfl) rfl rfl rfl ?_
  refine L_q (Q_pickT rfl rfl) rfl rfl rfl ?_
  refine L_q (Q_move rfl) rfl rfl rfl ?_
  refine L_q (Q_move rfl) rfl rfl rfl ?_
  refine L_q ((Q_eql rfl rfl).as (v' := .bool true) rfl) rfl rfl rfl ?_
  refine L_q (Q_pickT rfl rfl) rfl rfl rfl ?_
  refine L_q (Q_move rfl) rfl rfl rfl ?_
  refine L_q (Q_move rfl) rfl rfl rfl ?_
  refine L_q ((Q_seql rfl rfl).as (v' := .bool true) rfl) rfl rfl rfl ?_
  refine L_q (Q_pickT rfl rfl) rfl rfl rfl ?_
  refine L_q (Q_move rfl) rfl rfl rfl ?_
  refine L_q (Q_move rfl) rfl rfl rfl ?_
  refine L_q ((Q_eql rfl rfl).as (v' := .bool true) rfl) rfl rfl rfl ?_
  refine L_q (Q_pickT rfl rfl) rfl rfl rfl ?_
  refine L_q (Q_move rfl) rfl rfl rfl ?_
  refine L_q (Q_move rfl) rfl rfl rfl ?_
  refine L_q (Q_lenAt 1 rfl rfl) rfl rfl rfl ?_
  refine L_q ((Q_eql rfl rfl).as (v' := .bool true) rfl) rfl rfl rfl ?_
  refine L_q (Q_pickT rfl rfl) rfl rfl rfl ?_
  refine L_q (Q_move rfl) rfl rfl rfl ?_
  refine L_q (Q_move rfl) rfl rfl rfl ?_
  refine L_o rfl rfl rfl (O_call [0] [1,2] (p9 p) rfl rfl ?_)
  rintro _ _ ⟨rfl, rfl⟩
  refine JL.norm ?_
  refine L_q ((Q_eql rfl rfl).as (v' := .bool true) rfl) rfl rfl rfl ?_
  refine L_q (Q_pickT rfl rfl) rfl rfl rfl ?_
  refine L_q (Q_move rfl) rfl rfl rfl ?_
  refine L_q (Q_move rfl) rfl rfl rfl ?_
  refine L_o rfl rfl rfl (O_call [0] [1,2] (p10 p) rfl rfl ?_)
  rintro _ _ ⟨rfl, rfl⟩
  refine JL.norm ?_
  refine L_q ((Q_eql rfl rfl).as (v' := .bool true) rfl) rfl rfl rfl ?_
  refine L_q (Q_pickT rfl rfl) rfl rfl rfl ?_
  refine L_q (Q_assign rfl) rfl rfl rfl ?_
  refine JL_nil ?_
  refine seqQ_normal ?_
  refine J_ret ?_
  exact retQ_ret _ [] (.cons (RV_tmp rfl) .nil) ⟨rfl, rfl⟩ (Ent.re [2] rfl)
end Go.Proofs
