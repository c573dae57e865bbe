/- A pool and the document's: how they are alike, in plain Lean. -/
import Derived.Test.YtbpohfojedpneaaRef42b
set_option autoImplicit false
namespace Go.Proofs
open Go.SL
structure PR (W : Int → List Rq) (X : Int → Int) (n : Nat) (L : List Rq) : Prop where
  pw : PW W X n
  perm : ∀ k, (W k).Perm (L.filter fun r => decide (r.client = k))
  ge : ∀ k, ∀ r ∈ W k, X k ≤ r.seq
section
variable {W : Int → List Rq} {X : Int → Int} {n : Nat} {L : List Rq}
theorem PR.mem (h : PR W X n L) (r : Rq) : r ∈ L ↔ r ∈ W r.client := by
  rw [(h.perm r.client).mem_iff, List.mem_filter]; simp
theorem PR.rng (h : PR W X n L) : ∀ r ∈ L, 0 ≤ r.client ∧ r.client ≤ 15 ∧ 0 ≤ r.seq ∧ r.seq < 2147483648 := fun r hr =>
  may_parts (h.pw.own _ r ((h.mem r).1 hr)).2
theorem PR.own (h : PR W X n L) (c : Int) : ownN L c = (W c).length := (h.perm c).length_eq.symm
theorem sum_own (L : List Rq) (hc : ∀ r ∈ L, 0 ≤ r.client ∧ r.client ≤ 15) : ((List.range 16).map fun k => ownN L (k : Nat)).sum = L.length := by
  induction L with
  | nil => rfl
  | cons r L ih =>
    have hr := hc r (by simp)
    have hk : ((r.client.toNat : Nat) : Int) = r.client := by omega
    have h1 := sum_upd (fun k => ownN L (k : Nat)) (fun k => ownN (r :: L) (k : Nat)) r.client.toNat 16 (by omega) (fun j hj => by
      unfold ownN; rw [List.filter_cons, if_neg (by simp; omega)])
    have h2 : ownN (r :: L) (r.client.toNat : Nat) = ownN L (r.client.toNat : Nat) + 1 := by
      unfold ownN; rw [List.filter_cons, if_pos (by simp; omega)]; rfl
    rw [ih fun x hx => hc x (by simp [hx])] at h1
    simp only [h2] at h1
    rw [List.length_cons]
    omega
theorem PR.n_eq (h : PR W X n L) : n = L.length := by
  rw [h.pw.sum, ← sum_own L fun r hr => ⟨(h.rng r hr).1, (h.rng r hr).2.1⟩]
  unfold sumW
  congr 1
  exact List.map_congr_left fun k _ => (h.own k).symm
theorem srt_nodup {l : List Rq} (h : SrtR l) : l.Nodup := by
  rw [List.nodup_iff_pairwise_ne]
  exact h.imp fun h e => by rw [e] at h; omega
theorem PR.nodup (h : PR W X n L) : L.Nodup := by
  have hf : ∀ k, (L.filter fun r => decide (r.client = k)).Nodup := fun k => (h.perm k).nodup_iff.1 (srt_nodup (h.pw.srt k))
  clear h
  induction L with
  | nil => exact List.nodup_nil
  | cons r L ih =>
    rw [List.nodup_cons]
    refine ⟨fun hm => ?_, ih fun k => ?_⟩
    · have := hf r.client
      rw [List.filter_cons, if_pos (by simp), List.nodup_cons] at this
      exact this.1 (List.mem_filter.2 ⟨hm, by simp⟩)
    · have := hf k
      rw [List.filter_cons] at this
      split at this
      · exact (List.nodup_cons.1 this).2
      · exact this
theorem PR.dup (h : PR W X n L) (r : Rq) : dupB L r = fndR (W r.client) r.seq := by
  have key : dupB L r = true ↔ fndR (W r.client) r.seq = true := by
    unfold dupB fndR
    rw [List.any_eq_true, List.any_eq_true]
    constructor
    · rintro ⟨x, hx, e⟩
      have e := of_decide_eq_true e
      refine ⟨x, ?_, decide_eq_true e.2⟩
      rw [← e.1]; exact (h.mem x).1 hx
    · rintro ⟨x, hx, e⟩
      have e := of_decide_eq_true e
      have hc := (h.pw.own _ x hx).1
      refine ⟨x, (h.mem x).2 (by rw [hc]; exact hx), decide_eq_true ⟨hc, e⟩⟩
  cases h1 : dupB L r <;> cases h2 : fndR (W r.client) r.seq <;> simp [h1, h2] at key ⊢
theorem PR.putE (h : PR W X n L) (r : Rq) : Go.Proofs.putE W X n r = rputE L X r := by
  unfold Go.Proofs.putE rputE
  rw [h.own, h.dup, ← h.n_eq]
theorem PR.put (h : PR W X n L) (r : Rq) : PR (putW W X n r) X (putN W X n r) (rputL L X r) := by
  have he := h.putE r
  by_cases e : Go.Proofs.putE W X n r = 0
  · obtain ⟨h1, h2, h3, h4, h5⟩ := putE_0 e
    have hL : rputL L X r = L ++ [r] := by unfold rputL; rw [← he, if_pos e]
    have hW : putW W X n r = upd W r.client (insR (W r.client) r) := by unfold putW; rw [if_pos e]
    refine ⟨h.pw.put r, fun k => ?_, fun k x hx => ?_⟩
    · rw [hL, hW, List.filter_append]
      by_cases hk : r.client = k
      · subst hk
        rw [show upd W r.client (insR (W r.client) r) r.client = insR (W r.client) r by simp [upd]]
        have hp : (insR (W r.client) r).Perm (W r.client ++ [r]) := by
          unfold insR
          refine List.perm_middle.trans ?_
          rw [List.take_append_drop]
          exact (List.perm_append_singleton r (W r.client)).symm
        refine hp.trans ?_
        rw [show ([r].filter fun x : Rq => decide (x.client = r.client)) = [r] by simp]
        exact (h.perm r.client).append_right [r]
      · rw [show upd W r.client (insR (W r.client) r) k = W k by simp [upd, hk]]
        rw [show ([r].filter fun x : Rq => decide (x.client = k)) = [] by simp [hk], List.append_nil]
        exact h.perm k
    · rw [hW] at hx
      unfold upd at hx
      split at hx
      · rename_i hk
        rcases (insR_mem _ _ _).1 hx with rfl | hx
        · rw [← hk]; exact h5
        · rw [← hk]; exact h.ge _ x hx
      · exact h.ge k x hx
  · have hL : rputL L X r = L := by unfold rputL; rw [← he, if_neg e]
    have hW : putW W X n r = W := by unfold putW; rw [if_neg e]
    have hN : putN W X n r = n := by unfold putN; rw [if_neg e]
    rw [hL, hW, hN]; exact h
theorem PR.new : PR W0 X0 0 [] := ⟨PW.new, fun _ => List.Perm.refl _, by simp [W0]⟩
theorem drop_pos {l : List Rq} (hs : SrtR l) (x : Int) : l.drop (posR l x) = l.filter fun r => decide (x ≤ r.seq) := by
  have h1 : (l.take (posR l x)).filter (fun r => decide (x ≤ r.seq)) = [] := List.filter_eq_nil_iff.2 fun r hr => by
    obtain ⟨j, hj, rfl⟩ := List.getElem_of_mem hr
    rw [List.getElem_take]
    have hj' : j < posR l x := by simp at hj; omega
    have := posR_lt (l := l) (n := x) (by have := posR_le l x; omega) hj'
    simp; omega
  have h2 : (l.drop (posR l x)).filter (fun r => decide (x ≤ r.seq)) = l.drop (posR l x) := List.filter_eq_self.2 fun r hr => by
    obtain ⟨j, hj, rfl⟩ := List.getElem_of_mem hr
    rw [List.getElem_drop]
    have hj' : posR l x + j < l.length := by simp at hj; omega
    have := posR_ge (n := x) hs hj' (by omega)
    simp; omega
  have h3 := congrArg (List.filter fun r : Rq => decide (x ≤ r.seq)) (List.take_append_drop (posR l x) l)
  rw [List.filter_append, h1, h2, List.nil_append] at h3
  exact h3
theorem PR.rdone_self (h : PR W X n L) : rdoneL L X = L := List.filter_eq_self.2 fun r hr => decide_eq_true (h.ge _ r ((h.mem r).1 hr))
theorem PR.done1 (h : PR W X n L) (r : Rq) : PR (Go.Proofs.done1 (W, X, n) r).1 (Go.Proofs.done1 (W, X, n) r).2.1 (Go.Proofs.done1 (W, X, n) r).2.2 (rdoneL L (Go.Proofs.done1 (W, X, n) r).2.1) := by
  cases hb : mayB r with
  | false => rw [done1_no hb]; simp only; rw [h.rdone_self]; exact h
  | true =>
    have hpw := h.pw.done1 (s := (W, X, n)) r
    rw [done1_yes hb] at hpw ⊢
    simp only at hpw ⊢
    have hX : ∀ k, X k ≤ upd X r.client (nxt X r) k := fun k => by unfold upd nxt; split <;> (try omega); rename_i e; rw [e]; omega
    refine ⟨hpw, fun k => ?_, fun k x hx => ?_⟩
    · unfold rdoneL
      rw [List.filter_filter]
      have e1 : ∀ r0 : Rq, (decide (r0.client = k) && decide (upd X r.client (nxt X r) r0.client ≤ r0.seq)) = (decide (upd X r.client (nxt X r) k ≤ r0.seq) && decide (r0.client = k)) := fun r0 => by
        by_cases e : r0.client = k
        · rw [e]; simp
        · simp [e]
      simp only [e1]
      rw [← List.filter_filter]
      by_cases hk : r.client = k
      · subst hk
        rw [show upd W r.client ((W r.client).drop (posR (W r.client) (nxt X r))) r.client = (W r.client).drop (posR (W r.client) (nxt X r)) by simp [upd], drop_pos (h.pw.srt _)]
        rw [show upd X r.client (nxt X r) r.client = nxt X r by simp [upd]]
        exact (h.perm r.client).filter _
      · rw [show upd W r.client ((W r.client).drop (posR (W r.client) (nxt X r))) k = W k by simp [upd, hk], show upd X r.client (nxt X r) k = X k by simp [upd, hk]]
        have h2 := (h.perm k).filter fun r : Rq => decide (X k ≤ r.seq)
        rw [List.filter_eq_self.2 fun x hx => decide_eq_true (h.ge k x hx)] at h2
        exact h2
    · unfold upd at hx ⊢
      split at hx
      · rename_i hk
        rw [if_pos hk]
        rw [drop_pos (h.pw.srt _)] at hx
        exact of_decide_eq_true (List.mem_filter.1 hx).2
      · rename_i hk
        rw [if_neg hk]
        exact h.ge k x hx
end
theorem rdoneX_mono (X : Int → Int) (l : List Rq) : ∀ k, X k ≤ rdoneX X l k := by
  induction l generalizing X with
  | nil => exact fun _ => Int.le_refl _
  | cons r l ih =>
    intro k
    refine Int.le_trans ?_ (ih _ k)
    dsimp only
    split
    · unfold upd nxt; split
      · rename_i e; rw [e]; omega
      · exact Int.le_refl _
    · exact Int.le_refl _
theorem rdoneL_twice (L : List Rq) (X Y : Int → Int) (h : ∀ k, X k ≤ Y k) : rdoneL (rdoneL L X) Y = rdoneL L Y := by
  unfold rdoneL
  rw [List.filter_filter]
  congr 1
  funext r
  have := h r.client
  by_cases e : Y r.client ≤ r.seq
  · have : X r.client ≤ r.seq := by omega
    simp [e, this]
  · simp [e]
theorem PR.done {W : Int → List Rq} {X : Int → Int} {n : Nat} {L : List Rq} (h : PR W X n L) (l : List Rq) : (doneF (W, X, n) l).2.1 = rdoneX X l ∧ PR (doneF (W, X, n) l).1 (rdoneX X l) (doneF (W, X, n) l).2.2 (rdoneL L (rdoneX X l)) := by
  induction l generalizing W X n L with
  | nil => exact ⟨rfl, by rw [show rdoneX X [] = X from rfl, h.rdone_self]; exact h⟩
  | cons r l ih =>
    have h1 := h.done1 r
    have hX : (Go.Proofs.done1 (W, X, n) r).2.1 = if mayB r = true then upd X r.client (nxt X r) else X := by
      cases hb : mayB r with
      | false => rw [done1_no hb]; rfl
      | true => rw [done1_yes hb]; rfl
    have hm : ∀ k, (Go.Proofs.done1 (W, X, n) r).2.1 k ≤ rdoneX (Go.Proofs.done1 (W, X, n) r).2.1 l k := rdoneX_mono _ _
    have h2 := ih h1
    have e1 : doneF (W, X, n) (r :: l) = doneF (Go.Proofs.done1 (W, X, n) r) l := rfl
    have e2 : rdoneX X (r :: l) = rdoneX (Go.Proofs.done1 (W, X, n) r).2.1 l := by rw [hX]; rfl
    rw [rdoneL_twice _ _ _ hm] at h2
    rw [e1, e2]
    exact h2
/-! what is picked -/
def preK (W : Int → List Rq) (r c : Nat) : List Rq := (List.range r).flatMap (rowL W) ++ (kx.take c).flatMap (atR W r)
theorem preK_0 (W : Int → List Rq) (r : Nat) : preK W r 0 = (List.range r).flatMap (rowL W) := by simp [preK]
theorem preK_end (W : Int → List Rq) (r : Nat) : preK W r 16 = preK W (r + 1) 0 := by
  rw [preK_0, preK, List.take_of_length_le (by simp), List.range_succ, List.flatMap_append]; simp [rowL]
theorem preK_succ (W : Int → List Rq) (r c : Nat) (h : c < 16) : preK W r (c + 1) = preK W r c ++ atR W r (c : Int) := by
  rw [preK, preK, List.take_succ_eq_append_getElem (by simpa using h), List.flatMap_append, ← List.append_assoc]
  simp
theorem atR_mem {W : Int → List Rq} {r : Nat} {k : Int} {x : Rq} (h : x ∈ atR W r k) : ∃ hr : r < (W k).length, x = (W k)[r] := by
  unfold atR at h
  rw [Option.mem_toList] at h
  obtain ⟨hr, e⟩ := List.getElem?_eq_some_iff.1 h
  exact ⟨hr, e.symm⟩
theorem kx_take {c : Nat} {k : Int} (hc : c ≤ 16) (h : k ∈ kx.take c) : k < (c : Int) := by
  obtain ⟨j, hj, rfl⟩ := List.getElem_of_mem h
  rw [List.getElem_take]
  have : j < c := by simp at hj; omega
  simp; omega
theorem mem_preK {W : Int → List Rq} {X : Int → Int} {n : Nat} (h : PW W X n) {r c : Nat} (hc : c < 16) {x : Rq} (hx : x ∈ W (c : Int)) : x ∈ preK W r c ↔ x ∈ (W (c : Int)).take r := by
  have hxc := (h.own _ x hx).1
  unfold preK
  rw [List.mem_append, List.mem_flatMap, List.mem_flatMap]
  constructor
  · rintro (⟨q, hq, hm⟩ | ⟨k, hk, hm⟩)
    · unfold rowL at hm
      rw [List.mem_flatMap] at hm
      obtain ⟨k, hk, hm⟩ := hm
      obtain ⟨hql, e⟩ := atR_mem hm
      have hkc : k = (c : Int) := by
        have := (h.own k x (by rw [e]; exact List.getElem_mem hql)).1
        rw [← this, hxc]
      subst hkc
      have hqr := List.mem_range.1 hq
      rw [e, List.mem_iff_getElem]
      exact ⟨q, by simp; omega, by rw [List.getElem_take]⟩
    · obtain ⟨hql, e⟩ := atR_mem hm
      have := (h.own k x (by rw [e]; exact List.getElem_mem hql)).1
      have h2 := kx_take (by omega) hk
      rw [hxc] at this
      omega
  · intro hm
    obtain ⟨q, hq, e⟩ := List.getElem_of_mem hm
    rw [List.getElem_take] at e
    have hq2 : q < r ∧ q < (W (c : Int)).length := by simp at hq; omega
    refine .inl ⟨q, List.mem_range.2 hq2.1, ?_⟩
    unfold rowL
    rw [List.mem_flatMap]
    refine ⟨(c : Int), (kx_mem _).2 (by omega), ?_⟩
    rw [atR, List.getElem?_eq_getElem hq2.2, e]
    simp
theorem not_take {l : List Rq} (hn : l.Nodup) {r q : Nat} (hq : q < l.length) (h : r ≤ q) : l[q] ∉ l.take r := by
  intro hm
  obtain ⟨j, hj, e⟩ := List.getElem_of_mem hm
  rw [List.getElem_take] at e
  have hj2 : j < r := by simp at hj; omega
  have := (List.getElem_inj (hn)).1 e
  omega
/-- No candidate: none is there. -/
theorem sel_none {W : Int → List Rq} {X : Int → Int} {n : Nat} {L : List Rq} (h : PR W X n L) {r c : Nat} (hc : c < 16) (hno : ∀ x ∈ L, ¬ (x ∉ preK W r c ∧ x.client = (c : Int))) : atR W r (c : Int) = [] := by
  by_cases hr : r < (W (c : Int)).length
  · exfalso
    have hm : (W (c : Int))[r] ∈ W (c : Int) := List.getElem_mem hr
    have hcl := (h.pw.own _ _ hm).1
    refine hno (W (c : Int))[r] ((h.mem _).2 (by rw [hcl]; exact hm)) ⟨fun hp => ?_, hcl⟩
    exact not_take (srt_nodup (h.pw.srt _)) hr (Nat.le_refl _) ((mem_preK h.pw hc hm).1 hp)
  · rw [atR, List.getElem?_eq_none (by omega)]; rfl
/-- The best candidate is the next one. -/
theorem sel_some {W : Int → List Rq} {X : Int → Int} {n : Nat} {L : List Rq} (h : PR W X n L) {r c : Nat} (hc : c < 16) {y : Rq} (hy : y ∈ L) (hn : y ∉ preK W r c) (hcl : y.client = (c : Int)) (hb : ∀ x ∈ L, (x ∉ preK W r c ∧ x.client = (c : Int)) → y.seq ≤ x.seq) : atR W r (c : Int) = [y] := by
  have hyW : y ∈ W (c : Int) := by rw [← hcl]; exact (h.mem y).1 hy
  have hyt : y ∉ (W (c : Int)).take r := fun hp => hn ((mem_preK h.pw hc hyW).2 hp)
  obtain ⟨q, hq, e⟩ := List.getElem_of_mem hyW
  have hqr : r ≤ q := by
    rcases Nat.lt_or_ge q r with h2 | h2
    · exfalso
      refine hyt ?_
      rw [List.mem_iff_getElem]
      exact ⟨q, by simp; omega, by rw [List.getElem_take]; exact e⟩
    · exact h2
  have hr : r < (W (c : Int)).length := by omega
  have hm : (W (c : Int))[r] ∈ W (c : Int) := List.getElem_mem hr
  have hcl2 := (h.pw.own _ _ hm).1
  have hle := hb (W (c : Int))[r] ((h.mem _).2 (by rw [hcl2]; exact hm)) ⟨fun hp => not_take (srt_nodup (h.pw.srt _)) hr (Nat.le_refl _) ((mem_preK h.pw hc hm).1 hp), hcl2⟩
  have hqe : q = r := by
    rcases Nat.eq_or_lt_of_le hqr with h2 | h2
    · exact h2.symm
    · have := List.pairwise_iff_getElem.1 (h.pw.srt (c : Int)) r q hr hq h2
      rw [e] at this
      omega
  subst hqe
  rw [atR, List.getElem?_eq_getElem hq, e]; rfl
theorem picks_len {W : Int → List Rq} {X : Int → Int} {n : Nat} {L : List Rq} (h : PR W X n L) : (List.range L.length).flatMap (rowL W) = picksL W := by
  have hW : ∀ k, (W k).length ≤ L.length := fun k => by
    rw [(h.perm k).length_eq]; exact List.length_filter_le _ _
  by_cases h4 : L.length ≤ 4
  · exact picks_R hW h4
  · have := rows_more W 4 h.pw.len (L.length - 4)
    rw [show 4 + (L.length - 4) = L.length by omega] at this
    exact this
end Go.Proofs
