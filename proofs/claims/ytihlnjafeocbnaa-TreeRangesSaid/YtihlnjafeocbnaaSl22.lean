/- A range over a map. -/
import Derived.Test.YtihlnjafeocbnaaSl20
set_option autoImplicit false
namespace Go.SL
/-- Two chunks, the first and the i-th, as one. -/
theorem Sat.absorb {E w : World} {L : List HProp} {c d d' : HProp} (h : Sat E w (c :: L)) (i : Nat) (hi : L[i]? = some d) (hd : ∀ g k u : Frag, c E g → d E k → Frag.Disj g k → Frag.Le g u → Frag.Le k u → (∀ b o, k b = some o → w.heap[b]? = some o) → d' E u) : Sat E w (L.set i d') := by
  obtain ⟨fr, f1, f2, f3⟩ := h.own
  have hlt : i < L.length := (List.getElem?_eq_some_iff.1 hi).1
  have hdj : Frag.Disj (fr 0) (fr (i + 1)) := f3 0 (i + 1) (by simp) (by simpa using hlt) (by omega)
  let U : Frag := fun b => match fr 0 b with
    | some o => some o
    | none => fr (i + 1) b
  have hU : ∀ b o, U b = some o → fr 0 b = some o ∨ fr (i + 1) b = some o := fun b o hb => by
    simp only [U] at hb
    split at hb
    · rename_i o' ho; exact .inl (by rw [ho]; exact hb)
    · exact .inr hb
  refine ⟨h.os, h.tape, h.output, h.size, h.old, fun j => if j = i then U else fr (j + 1), ?_, ?_, ?_⟩
  · intro j x hx
    by_cases e : j = i
    · subst e
      rw [List.getElem?_set_self hlt] at hx
      obtain rfl := Option.some.inj hx
      simp only [if_true]
      refine hd (fr 0) (fr (j + 1)) U (f1 0 _ rfl) (f1 (j + 1) _ (by simpa using hi)) hdj (fun b o hb => by simp [U, hb]) (fun b o hb => ?_) (fun b o hb => (f2 (j + 1) (by simpa using hlt) b o hb).2)
      rcases hdj b with h0 | h0
      · simp [U, h0, hb]
      · rw [hb] at h0; cases h0
    · rw [List.getElem?_set_ne (Ne.symm e)] at hx
      simp only [e, if_false]; exact f1 (j + 1) x (by simpa using hx)
  · intro j hj b o hb
    rw [List.length_set] at hj
    by_cases e : j = i
    · subst e
      simp only [if_true] at hb
      rcases hU b o hb with hb | hb
      · exact f2 0 (by simp) b o hb
      · exact f2 (j + 1) (by simpa using hj) b o hb
    · simp only [e, if_false] at hb; exact f2 (j + 1) (by simpa using hj) b o hb
  · have hUd : ∀ k, k < L.length → k ≠ i → Frag.Disj U (fr (k + 1)) := fun k hk hne b => by
      by_cases h1 : U b = none
      · exact .inl h1
      · right
        obtain ⟨o, ho⟩ := Option.ne_none_iff_exists'.1 h1
        rcases hU b o ho with hb | hb
        · have := f3 0 (k + 1) (by simp) (by simpa using hk) (by omega) b
          rw [hb] at this; simpa using this
        · have := f3 (i + 1) (k + 1) (by simpa using hlt) (by simpa using hk) (by omega) b
          rw [hb] at this; simpa using this
    intro j k hj hk hne
    rw [List.length_set] at hj hk
    by_cases e : j = i <;> by_cases e' : k = i <;> simp only [e, e', if_true, if_false]
    · omega
    · exact hUd k hk e'
    · exact (hUd j hj e).symm
    · exact f3 (j + 1) (k + 1) (by simpa using hj) (by simpa using hk) (by omega)
/-- A map that is ranged over: all its pairs, those to come, those that came. -/
def mpX {κ β : Type} [DecidableEq κ] (M : MTy κ β) (r it : Nat) (l td vs : List (κ × β)) : HProp := fun _ h => ∃ (es : Array MapEntry) (clock : Nat) (seen : Array Nat) (ve : List MapEntry), h r = some (.map es clock) ∧ h it = some (.mapIter (some r) clock seen clock) ∧ r ≠ it ∧ mrow M es.toList l ∧ (∀ x ∈ es.toList, x.born < clock) ∧ (es.toList.map (·.born)).Nodup ∧ mrow M (es.toList.filter fun e => !seen.contains e.born) td ∧
  seen.toList = ve.map (·.born) ∧ mrow M ve vs ∧ ∀ e ∈ ve, e ∈ es.toList
section
variable {κ β : Type} [DecidableEq κ] {M : MTy κ β} {P : Program} {E : World} {n : Nat} {ρ : Env} {L : List HProp} {dst : Option Tmp} {ty : TypeId} {pos : String} {after : Array Edge} {g : Option (Nat × Bool)}
theorem O_mrange (i : Nat) {K : Value → List HProp → Prop} {t r : Nat} {x : Operand} {l : List (κ × β)} [ut : TyU P t (.map M.kt M.vt)] (hL : L[i]? = some (mpC M r l)) (hx : ρ.ev x = some (.map (some r))) (hK : ∀ it, K (.pointer (some ⟨it, 0, none⟩)) (L.set i (mpX M r it l l []))) :
    JOp P E n ⟨dst, .range t x, ty, pos, after, g⟩ K ρ L := fun c w ha hs next Q hn => by
  obtain ⟨p, ⟨es, clock, hb, hr, h1, h2⟩, hw⟩ := hs.at hL
  have hbw := (hw r _ hb).2
  unfold Oper.wp
  simp only [execOp, ha.ev hx]
  have hrun : (Instr.range t (.map (some r))).run P w = .ok (.pointer (some ⟨w.heap.size, 0, none⟩)) (w.alloc (.mapIter (some r) clock #[] clock)) := by
    simp [Instr.range, run_underlying ut.h, gobj hbw]
  simp only [Sem.run_bind, hrun, Result.andThen_ok, Sem.run_pure]
  refine hn _ _ _ (hK w.heap.size) ?_
  have hlt : r < w.heap.size := (Array.getElem?_eq_some_iff.1 hbw).1
  have h9 := hs.newed (newed_alloc w (.mapIter (some r) clock #[] clock))
  refine h9.absorb i hL fun g k u hg ⟨es2, clock2, hb2, hr2, h12, h22⟩ hd hg2 hk2 hkw => ?_
  have e1 := hkw r _ hb2
  have e2 : (w.alloc (.mapIter (some r) clock #[] clock)).heap[r]? = some (.map es clock) := by
    rw [(newed_alloc w (.mapIter (some r) clock #[] clock)).other r hlt]; exact hbw
  rw [e2] at e1
  simp only [Option.some.injEq, Obj.map.injEq] at e1
  obtain ⟨rfl, rfl⟩ := e1
  refine ⟨es, clock, #[], [], hk2 _ _ hb2, hg2 _ _ hg, by omega, hr, h1, h2, ?_, rfl, rfl, by simp⟩
  rw [List.filter_eq_self.2 (by simp)]
  exact hr
set_option linter.unusedSectionVars false in
theorem mrow_filter {es : List MapEntry} {td : List (κ × β)} (h : mrow M es td) {a b : List (κ × β)} {y : κ × β} (ht : td = a ++ y :: b) : ∃ (ea eb : List MapEntry) (e : MapEntry), es = ea ++ e :: eb ∧ mrow M ea a ∧ mrow M eb b ∧ e.key = M.kenc y.1 ∧ e.val = M.venc y.2 := by
  subst ht
  unfold mrow at h
  rw [List.map_append, List.map_cons] at h
  obtain ⟨ea, r1, rfl, h1, h2⟩ := List.map_eq_append_iff.1 h
  obtain ⟨e, eb, rfl, h3, h4⟩ := List.map_eq_cons_iff.1 h2
  simp only [Prod.mk.injEq] at h3
  exact ⟨ea, eb, e, rfl, h1, h4, h3.1, h3.2⟩
theorem born_inj {es : List MapEntry} (h : (es.map (·.born)).Nodup) {x y : MapEntry} (hx : x ∈ es) (hy : y ∈ es) (hb : x.born = y.born) : x = y := by
  induction es with
  | nil => simp at hx
  | cons e es ih =>
    rw [List.map_cons, List.nodup_cons] at h
    rcases List.mem_cons.1 hx with hx | hx <;> rcases List.mem_cons.1 hy with hy | hy
    · rw [hx, hy]
    · exact absurd (by rw [← hx, hb]; exact List.mem_map_of_mem hy) h.1
    · exact absurd (by rw [← hy, ← hb]; exact List.mem_map_of_mem hx) h.1
    · exact ih h.2 hx hy
theorem filter_push {es ea eb : List MapEntry} {e : MapEntry} {seen : Array Nat} (hn : (es.map (·.born)).Nodup) (h : (es.filter fun e => !seen.contains e.born) = ea ++ e :: eb) : (es.filter fun x => !(seen.push e.born).contains x.born) = ea ++ eb := by
  have h1 : (es.filter fun x => !(seen.push e.born).contains x.born) = (es.filter fun e => !seen.contains e.born).filter fun x => !decide (x.born = e.born) := by
    rw [List.filter_filter]
    congr 1
    funext x
    simp only [Array.contains_push]
    by_cases hx : x.born = e.born <;> simp [hx]
  have hsub : ((es.filter fun e => !seen.contains e.born).map (·.born)).Nodup := hn.sublist (List.filter_sublist.map _)
  rw [h1, h] at *
  rw [List.map_append, List.map_cons, List.nodup_append, List.nodup_cons] at hsub
  rw [List.filter_append, List.filter_cons]
  have ha : (ea.filter fun x => !decide (x.born = e.born)) = ea := List.filter_eq_self.2 fun x hx => by
    have := hsub.2.2 x.born (List.mem_map_of_mem hx) e.born (by simp)
    simp [this]
  have hb : (eb.filter fun x => !decide (x.born = e.born)) = eb := List.filter_eq_self.2 fun x hx => by
    have : x.born ≠ e.born := fun e2 => hsub.2.1.1 (by rw [← e2]; exact List.mem_map_of_mem hx)
    simp [this]
  rw [ha, hb]
  simp
theorem cut_next (n t : Nat) (h : 0 < n) : (Question.mapNext n).cut t < n := by
  simp only [Question.cut]; exact Nat.mod_lt _ h
theorem O_mnext (i : Nat) {K : Value → List HProp → Prop} {r it : Nat} {x : Operand} {l td vs : List (κ × β)} (hL : L[i]? = some (mpX M r it l td vs)) (hx : ρ.ev x = some (.pointer (some ⟨it, 0, none⟩)))
    (hK0 : td = [] → K (.tuple #[.bool false]) L) (hK1 : ∀ a y b, td = a ++ y :: b → K (.tuple #[.bool true, M.kenc y.1, M.venc y.2]) (L.set i (mpX M r it l (a ++ b) (vs ++ [y])))) :
    JOp P E n ⟨dst, .next x false, ty, pos, after, g⟩ K ρ L := fun c w ha hs next Q hn => by
  obtain ⟨p, ⟨es, clock, seen, ve, hb, hbi, hne, hr, h1, h2, htd, hse, hve, hvm⟩, hw⟩ := hs.at hL
  have hbw := (hw r _ hb).2
  have hiw := (hw it _ hbi).2
  have hgi : (getObj it).run P w = .ok (.mapIter (some r) clock seen clock) w := by simp [getObj, Sem.run, hiw]
  have hall : (seen.isEmpty = false ∧ es.isEmpty = false ∧ (es.all fun x => decide (x.born ≥ clock)) = true) → False := fun ⟨_, q1, q2⟩ => by
    have hsz : 0 < es.size := by
      rcases Nat.eq_zero_or_pos es.size with h | h
      · rw [Array.isEmpty_eq_false_iff] at q1; exact absurd (Array.eq_empty_of_size_eq_zero h) q1
      · exact h
    rw [Array.all_eq_true] at q2
    have := q2 0 hsz
    have h3 := h1 es[0] (by simp)
    simp at this
    omega
  generalize hleft : (es.filter fun e => !seen.contains e.born) = left at *
  have hl2 : left.toList = es.toList.filter fun e => !seen.contains e.born := by rw [← hleft]; simp
  rw [← hl2] at htd
  have hold : (left.filter fun e => decide (e.born < clock)) = left := by
    apply Array.ext'
    rw [Array.toList_filter]
    refine List.filter_eq_self.2 fun x hx => ?_
    rw [hl2] at hx
    simp [h1 x (List.mem_filter.1 hx).1]
  have hnew : (left.filter fun e => decide (e.born ≥ clock)) = #[] := by
    apply Array.ext'
    rw [Array.toList_filter]
    refine List.filter_eq_nil_iff.2 fun x hx => ?_
    rw [hl2] at hx
    have := h1 x ((List.mem_filter.1 hx).1)
    simp; omega
  have hif : ((!seen.isEmpty && !es.isEmpty && es.all fun x => decide (x.born ≥ clock)) = true) = False := by
    refine eq_false fun hh => hall ?_
    simp only [Bool.and_eq_true, Bool.not_eq_true'] at hh
    exact ⟨hh.1.1, hh.1.2, hh.2⟩
  unfold Oper.wp
  simp only [execOp, ha.ev hx]
  by_cases h0 : left.isEmpty = true
  · have hle : left = #[] := Array.isEmpty_iff.1 h0
    have ht0 : td = [] := by
      have := mrow_len htd
      rw [hle] at this
      exact List.eq_nil_of_length_eq_zero (by simpa using this.symm)
    have hrun : (Instr.next (.pointer (some ⟨it, 0, none⟩)) false ty).run P w = .ok (.tuple #[.bool false]) w := by
      simp only [Instr.next, Sem.run_bind, hgi, Result.andThen_ok, Bool.false_eq_true, gobj hbw, hif, if_false, hleft, hold, hnew]
      simp [hle, Question.forced]
    simp only [Sem.run_bind, hrun, Result.andThen_ok, Sem.run_pure]
    exact hn _ _ w (hK0 ht0) hs
  · have hsz : 0 < left.size := by
      rcases Nat.eq_zero_or_pos left.size with h | h
      · exact absurd (by simp [Array.eq_empty_of_size_eq_zero h]) h0
      · exact h
    obtain ⟨k, w1, hch, hk, hw1⟩ : ∃ k w1, (choose (.mapNext left.size)).run P w = .ok k w1 ∧ k < left.size ∧ (w1 = w ∨ w1 = w.drew) := by
      by_cases h1 : left.size ≤ 1
      · exact ⟨0, w, by simp [Question.forced, h1], hsz, .inl rfl⟩
      · exact ⟨(Question.mapNext left.size).cut (w.tape w.drawn (.mapNext left.size)), w.drew, by simp [Question.forced, h1], cut_next _ _ hsz, .inr rfl⟩
    have hs1 : Sat E w1 L := by
      rcases hw1 with rfl | rfl
      · exact hs
      · exact hs.drawn _
    have hh1 : w1.heap = w.heap := by rcases hw1 with rfl | rfl <;> rfl
    obtain ⟨y, hy⟩ : ∃ y, td = td.take k ++ y :: td.drop (k + 1) := by
      have := mrow_len htd
      rw [Array.length_toList] at this
      exact ⟨td[k], by rw [← List.drop_eq_getElem_cons (by omega), List.take_append_drop]⟩
    obtain ⟨ea, eb, e, q1, q2, q3, q4, q5⟩ := mrow_filter htd hy
    have hlen := mrow_len q2
    have htk : (td.take k).length = k := by
      have := mrow_len htd
      rw [Array.length_toList] at this
      rw [List.length_take]; omega
    have hek : left[k]? = some e := by
      rw [← Array.getElem?_toList, q1, List.getElem?_append_right (by omega), hlen, htk]; simp
    have hit : it < w1.heap.size := by rw [hh1]; exact (Array.getElem?_eq_some_iff.1 hiw).1
    have hrun : (Instr.next (.pointer (some ⟨it, 0, none⟩)) false ty).run P w = .ok (.tuple #[.bool true, M.kenc y.1, M.venc y.2]) { w1 with heap := w1.heap.setIfInBounds it (.mapIter (some r) clock (seen.push e.born) clock) } := by
      simp only [Bool.not_eq_true] at h0
      have hso : (setObj it (.mapIter (some r) clock (seen.push e.born) clock)).run P w1 = .ok () { w1 with heap := w1.heap.setIfInBounds it (.mapIter (some r) clock (seen.push e.born) clock) } := by
        have : w1.heap[it]? = some (.mapIter (some r) clock seen clock) := by rw [hh1]; exact hiw
        simp only [setObj, Sem.run, this]
      simp only [Instr.next, Sem.run_bind, hgi, Result.andThen_ok, Bool.false_eq_true, gobj hbw, hif, if_false, hleft, hold, hnew, h0]
      simp only [Array.append_empty, Array.empty_append, Array.size_map, hch, Result.andThen_ok, Array.getElem?_map, hek, Option.map_some, Sem.run_bind, hso, Sem.run_pure, q4, q5]
    simp only [Sem.run_bind, hrun, Result.andThen_ok, Sem.run_pure]
    refine hn _ _ _ (hK1 _ _ _ hy) (hs1.turn_at hL (fun p' ⟨es2, clock2, seen2, ve2, hb2, hbi2, hne2, hr2, h12, h22, htd2, hse2, hve2, hvm2⟩ hpw => ?_) (turned_set w1 it _ (.mapIter (some r) clock (seen.push e.born) clock) (by rw [hh1]; exact hiw)))
    have e1 := hpw r _ hb2
    have e2 := hpw it _ hbi2
    rw [hh1] at e1 e2
    rw [hbw] at e1
    rw [hiw] at e2
    simp only [Option.some.injEq, Obj.map.injEq, Obj.mapIter.injEq] at e1 e2
    obtain ⟨rfl, rfl⟩ := e1
    obtain ⟨_, _, rfl, _⟩ := e2
    have hem : e ∈ es.toList := by
      have : e ∈ left.toList := by rw [q1]; simp
      rw [hl2] at this
      exact (List.mem_filter.1 this).1
    refine ⟨⟨_, hbi2⟩, es, clock, seen.push e.born, ve2 ++ [e], by simp [hne, hb2], by simp, hne, hr, h1, h2, ?_, by simp [hse2], ?_, ?_⟩
    · rw [hl2] at q1
      rw [filter_push h2 q1]
      unfold mrow
      rw [List.map_append, List.map_append, q2, q3]
    · unfold mrow
      rw [List.map_append, List.map_append, hve2]
      simp [q4, q5]
    · intro x hx
      rcases List.mem_append.1 hx with hx | hx
      · exact hvm2 x hx
      · rw [List.mem_singleton] at hx; rw [hx]; exact hem
theorem O_mentry (i : Nat) {K : Value → List HProp → Prop} {r it : Nat} {x : Operand} {l td vs : List (κ × β)} {y : κ × β} (hL : L[i]? = some (mpX M r it l td (vs ++ [y]))) (hx : ρ.ev x = some (.pointer (some ⟨it, 0, none⟩)))
    (hK : K (.tuple #[M.kenc y.1, M.venc y.2]) L) :
    JOp P E n ⟨dst, .entry x, ty, pos, after, g⟩ K ρ L := fun c w ha hs next Q hn => by
  obtain ⟨p, ⟨es, clock, seen, ve, hb, hbi, hne, hr, h1, h2, htd, hse, hve, hvm⟩, hw⟩ := hs.at hL
  have hbw := (hw r _ hb).2
  have hiw := (hw it _ hbi).2
  have hgi : (getObj it).run P w = .ok (.mapIter (some r) clock seen clock) w := by simp [getObj, Sem.run, hiw]
  obtain ⟨ea, eb, e, rfl, q2, q3, q4, q5⟩ := mrow_filter hve (a := vs) (y := y) (b := []) rfl
  have heb : eb = [] := by have := mrow_len q3; exact List.eq_nil_of_length_eq_zero (by simpa using this)
  subst heb
  have hback : seen.back? = some e.born := by
    rw [← Array.getLast?_toList, hse]; simp
  have hfind : es.find? (fun x => x.born == e.born) = some e := by
    rw [← Array.find?_toList]
    have hem : e ∈ es.toList := hvm e (by simp)
    cases hf : es.toList.find? fun x => x.born == e.born with
    | none => rw [List.find?_eq_none] at hf; have := hf e hem; simp at this
    | some x =>
      have h3 := List.find?_some hf
      rw [born_inj h2 (List.mem_of_find?_eq_some hf) hem (by simpa using h3)]
  unfold Oper.wp
  simp only [execOp, ha.ev hx]
  have hrun : (Instr.entry (.pointer (some ⟨it, 0, none⟩))).run P w = .ok (.tuple #[M.kenc y.1, M.venc y.2]) w := by
    simp only [Instr.entry]
    simp [hgi, gobj hbw, hback, hfind, q4, q5]
  simp only [Sem.run_bind, hrun, Result.andThen_ok, Sem.run_pure]
  exact hn _ _ w hK hs
/-- The range is over. -/
theorem Ent.mpEnd (i : Nat) {r it : Nat} {l td vs : List (κ × β)} (hL : L[i]? = some (mpX M r it l td vs)) : Ent L (L.set i (mpC M r l)) := fun _ _ h => h.map_at hL fun g ⟨es, clock, seen, ve, hb, hbi, hne, hr, h1, h2, _⟩ => ⟨es, clock, hb, hr, h1, h2⟩
end
theorem blockQ_mono {id : Nat} {Q Q' : Post} (h : ∀ e ρ L, Q e ρ L → Q' e ρ L) : ∀ e ρ L, blockQ id Q e ρ L → blockQ id Q' e ρ L := by
  intro e ρ L hb
  cases e with
  | exit j =>
    simp only [blockQ] at hb ⊢
    cases hj : Nat.beq j id <;> simp only [hj, cond_true, cond_false] at hb ⊢ <;> exact h _ _ _ hb
  | _ => exact h _ _ _ hb
/-- What holds behind a block, told once. -/
theorem J.cut {P : Program} {E : World} {n id : Nat} {c d : Code} {Q : Post} {ρ : Env} {L : List HProp} (M : Post) (h : J P E n c (seqQ P E n d (blockQ id M)) ρ L) (hq : ∀ e ρ L, M e ρ L → Q e ρ L) : J P E n c (seqQ P E n d (blockQ id Q)) ρ L := by
  refine h.mono fun e ρ L he => ?_
  cases e with
  | normal => exact J.mono (show J P E n d (blockQ id M) ρ L from he) (blockQ_mono hq)
  | _ => simp only [seqQ] at he ⊢; exact blockQ_mono hq _ _ _ he
end Go.SL
