/- Part 12 of the texts below the row: Sl22, Tree7, Tree8. -/
import Derived.Test.YtkglhackgghcfaaGreatM11
/- A range over a map. -/
set_option autoImplicit false
namespace Go.SL
/-- Two chunks, the first and the i-th, as one. -/
theorem Sat.absorb {E w : World} {L : List HProp} {c d d' : HProp} (h : Sat E w (c :: L)) (i : Nat) (hi : L[i]? = some d) (hd : ∀ g k u : Frag, c E g → d E k → Frag.Disj g k → Frag.Le g u → Frag.Le k u → (∀ b o, k b = some o → w.heap[b]? = some o) → d' E u) : Sat E w (L.set i d') := by
  obtain ⟨fr, f1, f2, f3⟩ := h.own
  have hlt : i < L.length := (List.getElem?_eq_some_iff.1 hi).1
  have hdj : Frag.Disj (fr 0) (fr (i + 1)) := f3 0 (i + 1) (by simp) (by simpa using hlt) (by omega)
  let U : Frag := fun b => match fr 0 b with
    | some o => some o
    | none => fr (i + 1) b
  have hU : ∀ b o, U b = some o → fr 0 b = some o ∨ fr (i + 1) b = some o := fun b o hb => by
    simp only [U] at hb
    split at hb
    · rename_i o' ho; exact .inl (by rw [ho]; exact hb)
    · exact .inr hb
  refine ⟨h.os, h.tape, h.output, h.size, h.old, fun j => if j = i then U else fr (j + 1), ?_, ?_, ?_⟩
  · intro j x hx
    by_cases e : j = i
    · subst e
      rw [List.getElem?_set_self hlt] at hx
      obtain rfl := Option.some.inj hx
      simp only [if_true]
      refine hd (fr 0) (fr (j + 1)) U (f1 0 _ rfl) (f1 (j + 1) _ (by simpa using hi)) hdj (fun b o hb => by simp [U, hb]) (fun b o hb => ?_) (fun b o hb => (f2 (j + 1) (by simpa using hlt) b o hb).2)
      rcases hdj b with h0 | h0
      · simp [U, h0, hb]
      · rw [hb] at h0; cases h0
    · rw [List.getElem?_set_ne (Ne.symm e)] at hx
      simp only [e, if_false]; exact f1 (j + 1) x (by simpa using hx)
  · intro j hj b o hb
    rw [List.length_set] at hj
    by_cases e : j = i
    · subst e
      simp only [if_true] at hb
      rcases hU b o hb with hb | hb
      · exact f2 0 (by simp) b o hb
      · exact f2 (j + 1) (by simpa using hj) b o hb
    · simp only [e, if_false] at hb; exact f2 (j + 1) (by simpa using hj) b o hb
  · have hUd : ∀ k, k < L.length → k ≠ i → Frag.Disj U (fr (k + 1)) := fun k hk hne b => by
      by_cases h1 : U b = none
      · exact .inl h1
      · right
        obtain ⟨o, ho⟩ := Option.ne_none_iff_exists'.1 h1
        rcases hU b o ho with hb | hb
        · have := f3 0 (k + 1) (by simp) (by simpa using hk) (by omega) b
          rw [hb] at this; simpa using this
        · have := f3 (i + 1) (k + 1) (by simpa using hlt) (by simpa using hk) (by omega) b
          rw [hb] at this; simpa using this
    intro j k hj hk hne
    rw [List.length_set] at hj hk
    by_cases e : j = i <;> by_cases e' : k = i <;> simp only [e, e', if_true, if_false]
    · omega
    · exact hUd k hk e'
    · exact (hUd j hj e).symm
    · exact f3 (j + 1) (k + 1) (by simpa using hj) (by simpa using hk) (by omega)
/-- A map that is ranged over: all its pairs, those to come, those that came. -/
def mpX {κ β : Type} [DecidableEq κ] (M : MTy κ β) (r it : Nat) (l td vs : List (κ × β)) : HProp := fun _ h => ∃ (es : Array MapEntry) (clock : Nat) (seen : Array Nat) (ve : List MapEntry), h r = some (.map es clock) ∧ h it = some (.mapIter (some r) clock seen clock) ∧ r ≠ it ∧ mrow M es.toList l ∧ (∀ x ∈ es.toList, x.born < clock) ∧ (es.toList.map (·.born)).Nodup ∧ mrow M (es.toList.filter fun e => !seen.contains e.born) td ∧
  seen.toList = ve.map (·.born) ∧ mrow M ve vs ∧ ∀ e ∈ ve, e ∈ es.toList
section
variable {κ β : Type} [DecidableEq κ] {M : MTy κ β} {P : Program} {E : World} {n : Nat} {ρ : Env} {L : List HProp} {dst : Option Tmp} {ty : TypeId} {pos : String} {after : Array Edge} {g : Option (Nat × Bool)}
theorem O_mrange (i : Nat) {K : Value → List HProp → Prop} {t r : Nat} {x : Operand} {l : List (κ × β)} [ut : TyU P t (.map M.kt M.vt)] (hL : L[i]? = some (mpC M r l)) (hx : ρ.ev x = some (.map (some r))) (hK : ∀ it, K (.pointer (some ⟨it, 0, none⟩)) (L.set i (mpX M r it l l []))) :
    JOp P E n ⟨dst, .range t x, ty, pos, after, g⟩ K ρ L := fun c w ha hs next Q hn => by
  obtain ⟨p, ⟨es, clock, hb, hr, h1, h2⟩, hw⟩ := hs.at hL
  have hbw := (hw r _ hb).2
  unfold Oper.wp
  simp only [execOp, ha.ev hx]
  have hrun : (Instr.range t (.map (some r))).run P w = .ok (.pointer (some ⟨w.heap.size, 0, none⟩)) (w.alloc (.mapIter (some r) clock #[] clock)) := by
    simp [Instr.range, run_underlying ut.h, gobj hbw]
  simp only [Sem.run_bind, hrun, Result.andThen_ok, Sem.run_pure]
  refine hn _ _ _ (hK w.heap.size) ?_
  have hlt : r < w.heap.size := (Array.getElem?_eq_some_iff.1 hbw).1
  have h9 := hs.newed (newed_alloc w (.mapIter (some r) clock #[] clock))
  refine h9.absorb i hL fun g k u hg ⟨es2, clock2, hb2, hr2, h12, h22⟩ hd hg2 hk2 hkw => ?_
  have e1 := hkw r _ hb2
  have e2 : (w.alloc (.mapIter (some r) clock #[] clock)).heap[r]? = some (.map es clock) := by
    rw [(newed_alloc w (.mapIter (some r) clock #[] clock)).other r hlt]; exact hbw
  rw [e2] at e1
  simp only [Option.some.injEq, Obj.map.injEq] at e1
  obtain ⟨rfl, rfl⟩ := e1
  refine ⟨es, clock, #[], [], hk2 _ _ hb2, hg2 _ _ hg, by omega, hr, h1, h2, ?_, rfl, rfl, by simp⟩
  rw [List.filter_eq_self.2 (by simp)]
  exact hr
set_option linter.unusedSectionVars false in
theorem mrow_filter {es : List MapEntry} {td : List (κ × β)} (h : mrow M es td) {a b : List (κ × β)} {y : κ × β} (ht : td = a ++ y :: b) : ∃ (ea eb : List MapEntry) (e : MapEntry), es = ea ++ e :: eb ∧ mrow M ea a ∧ mrow M eb b ∧ e.key = M.kenc y.1 ∧ e.val = M.venc y.2 := by
  subst ht
  unfold mrow at h
  rw [List.map_append, List.map_cons] at h
  obtain ⟨ea, r1, rfl, h1, h2⟩ := List.map_eq_append_iff.1 h
  obtain ⟨e, eb, rfl, h3, h4⟩ := List.map_eq_cons_iff.1 h2
  simp only [Prod.mk.injEq] at h3
  exact ⟨ea, eb, e, rfl, h1, h4, h3.1, h3.2⟩
theorem born_inj {es : List MapEntry} (h : (es.map (·.born)).Nodup) {x y : MapEntry} (hx : x ∈ es) (hy : y ∈ es) (hb : x.born = y.born) : x = y := by
  induction es with
  | nil => simp at hx
  | cons e es ih =>
    rw [List.map_cons, List.nodup_cons] at h
    rcases List.mem_cons.1 hx with hx | hx <;> rcases List.mem_cons.1 hy with hy | hy
    · rw [hx, hy]
    · exact absurd (by rw [← hx, hb]; exact List.mem_map_of_mem hy) h.1
    · exact absurd (by rw [← hy, ← hb]; exact List.mem_map_of_mem hx) h.1
    · exact ih h.2 hx hy
theorem filter_push {es ea eb : List MapEntry} {e : MapEntry} {seen : Array Nat} (hn : (es.map (·.born)).Nodup) (h : (es.filter fun e => !seen.contains e.born) = ea ++ e :: eb) : (es.filter fun x => !(seen.push e.born).contains x.born) = ea ++ eb := by
  have h1 : (es.filter fun x => !(seen.push e.born).contains x.born) = (es.filter fun e => !seen.contains e.born).filter fun x => !decide (x.born = e.born) := by
    rw [List.filter_filter]
    congr 1
    funext x
    simp only [Array.contains_push]
    by_cases hx : x.born = e.born <;> simp [hx]
  have hsub : ((es.filter fun e => !seen.contains e.born).map (·.born)).Nodup := hn.sublist (List.filter_sublist.map _)
  rw [h1, h] at *
  rw [List.map_append, List.map_cons, List.nodup_append, List.nodup_cons] at hsub
  rw [List.filter_append, List.filter_cons]
  have ha : (ea.filter fun x => !decide (x.born = e.born)) = ea := List.filter_eq_self.2 fun x hx => by
    have := hsub.2.2 x.born (List.mem_map_of_mem hx) e.born (by simp)
    simp [this]
  have hb : (eb.filter fun x => !decide (x.born = e.born)) = eb := List.filter_eq_self.2 fun x hx => by
    have : x.born ≠ e.born := fun e2 => hsub.2.1.1 (by rw [← e2]; exact List.mem_map_of_mem hx)
    simp [this]
  rw [ha, hb]
  simp
theorem cut_next (n t : Nat) (h : 0 < n) : (Question.mapNext n).cut t < n := by
  simp only [Question.cut]; exact Nat.mod_lt _ h
theorem O_mnext (i : Nat) {K : Value → List HProp → Prop} {r it : Nat} {x : Operand} {l td vs : List (κ × β)} (hL : L[i]? = some (mpX M r it l td vs)) (hx : ρ.ev x = some (.pointer (some ⟨it, 0, none⟩)))
    (hK0 : td = [] → K (.tuple #[.bool false]) L) (hK1 : ∀ a y b, td = a ++ y :: b → K (.tuple #[.bool true, M.kenc y.1, M.venc y.2]) (L.set i (mpX M r it l (a ++ b) (vs ++ [y])))) :
    JOp P E n ⟨dst, .next x false, ty, pos, after, g⟩ K ρ L := fun c w ha hs next Q hn => by
  obtain ⟨p, ⟨es, clock, seen, ve, hb, hbi, hne, hr, h1, h2, htd, hse, hve, hvm⟩, hw⟩ := hs.at hL
  have hbw := (hw r _ hb).2
  have hiw := (hw it _ hbi).2
  have hgi : (getObj it).run P w = .ok (.mapIter (some r) clock seen clock) w := by simp [getObj, Sem.run, hiw]
  have hall : (seen.isEmpty = false ∧ es.isEmpty = false ∧ (es.all fun x => decide (x.born ≥ clock)) = true) → False := fun ⟨_, q1, q2⟩ => by
    have hsz : 0 < es.size := by
      rcases Nat.eq_zero_or_pos es.size with h | h
      · rw [Array.isEmpty_eq_false_iff] at q1; exact absurd (Array.eq_empty_of_size_eq_zero h) q1
      · exact h
    rw [Array.all_eq_true] at q2
    have := q2 0 hsz
    have h3 := h1 es[0] (by simp)
    simp at this
    omega
  generalize hleft : (es.filter fun e => !seen.contains e.born) = left at *
  have hl2 : left.toList = es.toList.filter fun e => !seen.contains e.born := by rw [← hleft]; simp
  rw [← hl2] at htd
  have hold : (left.filter fun e => decide (e.born < clock)) = left := by
    apply Array.ext'
    rw [Array.toList_filter]
    refine List.filter_eq_self.2 fun x hx => ?_
    rw [hl2] at hx
    simp [h1 x (List.mem_filter.1 hx).1]
  have hnew : (left.filter fun e => decide (e.born ≥ clock)) = #[] := by
    apply Array.ext'
    rw [Array.toList_filter]
    refine List.filter_eq_nil_iff.2 fun x hx => ?_
    rw [hl2] at hx
    have := h1 x ((List.mem_filter.1 hx).1)
    simp; omega
  have hif : ((!seen.isEmpty && !es.isEmpty && es.all fun x => decide (x.born ≥ clock)) = true) = False := by
    refine eq_false fun hh => hall ?_
    simp only [Bool.and_eq_true, Bool.not_eq_true'] at hh
    exact ⟨hh.1.1, hh.1.2, hh.2⟩
  unfold Oper.wp
  simp only [execOp, ha.ev hx]
  by_cases h0 : left.isEmpty = true
  · have hle : left = #[] := Array.isEmpty_iff.1 h0
    have ht0 : td = [] := by
      have := mrow_len htd
      rw [hle] at this
      exact List.eq_nil_of_length_eq_zero (by simpa using this.symm)
    have hrun : (Instr.next (.pointer (some ⟨it, 0, none⟩)) false ty).run P w = .ok (.tuple #[.bool false]) w := by
      simp only [Instr.next, Sem.run_bind, hgi, Result.andThen_ok, Bool.false_eq_true, gobj hbw, hif, if_false, hleft, hold, hnew]
      simp [hle, Question.forced]
    simp only [Sem.run_bind, hrun, Result.andThen_ok, Sem.run_pure]
    exact hn _ _ w (hK0 ht0) hs
  · have hsz : 0 < left.size := by
      rcases Nat.eq_zero_or_pos left.size with h | h
      · exact absurd (by simp [Array.eq_empty_of_size_eq_zero h]) h0
      · exact h
    obtain ⟨k, w1, hch, hk, hw1⟩ : ∃ k w1, (choose (.mapNext left.size)).run P w = .ok k w1 ∧ k < left.size ∧ (w1 = w ∨ w1 = w.drew) := by
      by_cases h1 : left.size ≤ 1
      · exact ⟨0, w, by simp [Question.forced, h1], hsz, .inl rfl⟩
      · exact ⟨(Question.mapNext left.size).cut (w.tape w.drawn (.mapNext left.size)), w.drew, by simp [Question.forced, h1], cut_next _ _ hsz, .inr rfl⟩
    have hs1 : Sat E w1 L := by
      rcases hw1 with rfl | rfl
      · exact hs
      · exact hs.drawn _
    have hh1 : w1.heap = w.heap := by rcases hw1 with rfl | rfl <;> rfl
    obtain ⟨y, hy⟩ : ∃ y, td = td.take k ++ y :: td.drop (k + 1) := by
      have := mrow_len htd
      rw [Array.length_toList] at this
      exact ⟨td[k], by rw [← List.drop_eq_getElem_cons (by omega), List.take_append_drop]⟩
    obtain ⟨ea, eb, e, q1, q2, q3, q4, q5⟩ := mrow_filter htd hy
    have hlen := mrow_len q2
    have htk : (td.take k).length = k := by
      have := mrow_len htd
      rw [Array.length_toList] at this
      rw [List.length_take]; omega
    have hek : left[k]? = some e := by
      rw [← Array.getElem?_toList, q1, List.getElem?_append_right (by omega), hlen, htk]; simp
    have hit : it < w1.heap.size := by rw [hh1]; exact (Array.getElem?_eq_some_iff.1 hiw).1
    have hrun : (Instr.next (.pointer (some ⟨it, 0, none⟩)) false ty).run P w = .ok (.tuple #[.bool true, M.kenc y.1, M.venc y.2]) { w1 with heap := w1.heap.setIfInBounds it (.mapIter (some r) clock (seen.push e.born) clock) } := by
      simp only [Bool.not_eq_true] at h0
      have hso : (setObj it (.mapIter (some r) clock (seen.push e.born) clock)).run P w1 = .ok () { w1 with heap := w1.heap.setIfInBounds it (.mapIter (some r) clock (seen.push e.born) clock) } := by
        have : w1.heap[it]? = some (.mapIter (some r) clock seen clock) := by rw [hh1]; exact hiw
        simp only [setObj, Sem.run, this]
      simp only [Instr.next, Sem.run_bind, hgi, Result.andThen_ok, Bool.false_eq_true, gobj hbw, hif, if_false, hleft, hold, hnew, h0]
      simp only [Array.append_empty, Array.empty_append, Array.size_map, hch, Result.andThen_ok, Array.getElem?_map, hek, Option.map_some, Sem.run_bind, hso, Sem.run_pure, q4, q5]
    simp only [Sem.run_bind, hrun, Result.andThen_ok, Sem.run_pure]
    refine hn _ _ _ (hK1 _ _ _ hy) (hs1.turn_at hL (fun p' ⟨es2, clock2, seen2, ve2, hb2, hbi2, hne2, hr2, h12, h22, htd2, hse2, hve2, hvm2⟩ hpw => ?_) (turned_set w1 it _ (.mapIter (some r) clock (seen.push e.born) clock) (by rw [hh1]; exact hiw)))
    have e1 := hpw r _ hb2
    have e2 := hpw it _ hbi2
    rw [hh1] at e1 e2
    rw [hbw] at e1
    rw [hiw] at e2
    simp only [Option.some.injEq, Obj.map.injEq, Obj.mapIter.injEq] at e1 e2
    obtain ⟨rfl, rfl⟩ := e1
    obtain ⟨_, _, rfl, _⟩ := e2
    have hem : e ∈ es.toList := by
      have : e ∈ left.toList := by rw [q1]; simp
      rw [hl2] at this
      exact (List.mem_filter.1 this).1
    refine ⟨⟨_, hbi2⟩, es, clock, seen.push e.born, ve2 ++ [e], by simp [hne, hb2], by simp, hne, hr, h1, h2, ?_, by simp [hse2], ?_, ?_⟩
    · rw [hl2] at q1
      rw [filter_push h2 q1]
      unfold mrow
      rw [List.map_append, List.map_append, q2, q3]
    · unfold mrow
      rw [List.map_append, List.map_append, hve2]
      simp [q4, q5]
    · intro x hx
      rcases List.mem_append.1 hx with hx | hx
      · exact hvm2 x hx
      · rw [List.mem_singleton] at hx; rw [hx]; exact hem
theorem O_mentry (i : Nat) {K : Value → List HProp → Prop} {r it : Nat} {x : Operand} {l td vs : List (κ × β)} {y : κ × β} (hL : L[i]? = some (mpX M r it l td (vs ++ [y]))) (hx : ρ.ev x = some (.pointer (some ⟨it, 0, none⟩)))
    (hK : K (.tuple #[M.kenc y.1, M.venc y.2]) L) :
    JOp P E n ⟨dst, .entry x, ty, pos, after, g⟩ K ρ L := fun c w ha hs next Q hn => by
  obtain ⟨p, ⟨es, clock, seen, ve, hb, hbi, hne, hr, h1, h2, htd, hse, hve, hvm⟩, hw⟩ := hs.at hL
  have hbw := (hw r _ hb).2
  have hiw := (hw it _ hbi).2
  have hgi : (getObj it).run P w = .ok (.mapIter (some r) clock seen clock) w := by simp [getObj, Sem.run, hiw]
  obtain ⟨ea, eb, e, rfl, q2, q3, q4, q5⟩ := mrow_filter hve (a := vs) (y := y) (b := []) rfl
  have heb : eb = [] := by have := mrow_len q3; exact List.eq_nil_of_length_eq_zero (by simpa using this)
  subst heb
  have hback : seen.back? = some e.born := by
    rw [← Array.getLast?_toList, hse]; simp
  have hfind : es.find? (fun x => x.born == e.born) = some e := by
    rw [← Array.find?_toList]
    have hem : e ∈ es.toList := hvm e (by simp)
    cases hf : es.toList.find? fun x => x.born == e.born with
    | none => rw [List.find?_eq_none] at hf; have := hf e hem; simp at this
    | some x =>
      have h3 := List.find?_some hf
      rw [born_inj h2 (List.mem_of_find?_eq_some hf) hem (by simpa using h3)]
  unfold Oper.wp
  simp only [execOp, ha.ev hx]
  have hrun : (Instr.entry (.pointer (some ⟨it, 0, none⟩))).run P w = .ok (.tuple #[M.kenc y.1, M.venc y.2]) w := by
    simp only [Instr.entry]
    simp [hgi, gobj hbw, hback, hfind, q4, q5]
  simp only [Sem.run_bind, hrun, Result.andThen_ok, Sem.run_pure]
  exact hn _ _ w hK hs
/-- The range is over. -/
theorem Ent.mpEnd (i : Nat) {r it : Nat} {l td vs : List (κ × β)} (hL : L[i]? = some (mpX M r it l td vs)) : Ent L (L.set i (mpC M r l)) := fun _ _ h => h.map_at hL fun g ⟨es, clock, seen, ve, hb, hbi, hne, hr, h1, h2, _⟩ => ⟨es, clock, hb, hr, h1, h2⟩
end
theorem blockQ_mono {id : Nat} {Q Q' : Post} (h : ∀ e ρ L, Q e ρ L → Q' e ρ L) : ∀ e ρ L, blockQ id Q e ρ L → blockQ id Q' e ρ L := by
  intro e ρ L hb
  cases e with
  | exit j =>
    simp only [blockQ] at hb ⊢
    cases hj : Nat.beq j id <;> simp only [hj, cond_true, cond_false] at hb ⊢ <;> exact h _ _ _ hb
  | _ => exact h _ _ _ hb
/-- What holds behind a block, told once. -/
theorem J.cut {P : Program} {E : World} {n id : Nat} {c d : Code} {Q : Post} {ρ : Env} {L : List HProp} (M : Post) (h : J P E n c (seqQ P E n d (blockQ id M)) ρ L) (hq : ∀ e ρ L, M e ρ L → Q e ρ L) : J P E n c (seqQ P E n d (blockQ id Q)) ρ L := by
  refine h.mono fun e ρ L he => ?_
  cases e with
  | normal => exact J.mono (show J P E n d (blockQ id M) ρ L from he) (blockQ_mono hq)
  | _ => simp only [seqQ] at he ⊢; exact blockQ_mono hq _ _ _ he
end Go.SL
/- A child made to have more than the fewest keys; the first or last pair below a node. -/
set_option autoImplicit false
namespace Go.SL
theorem J.mid {P : Program} {E : World} {n : Nat} {c d : Code} {Q : Post} {ρ : Env} {L : List HProp} (M : Env → List HProp → Prop) (h : J P E n c (fun e ρ L => e = .normal ∧ M ρ L) ρ L) (hq : ∀ ρ L, M ρ L → J P E n d Q ρ L) : J P E n c (seqQ P E n d Q) ρ L := by
  refine h.mono fun e ρ L he => ?_
  obtain ⟨rfl, hM⟩ := he
  exact hq ρ L hM
end Go.SL
namespace Go.Proofs.Bt
open Go.SL
theorem preI_snoc (k : Kv) (f : List Kv) : ∀ (K : List Kv) (F : List (List Kv)), K.length = F.length → preI (K ++ [k]) (F ++ [f]) = preI K F ++ f ++ [k]
  | [], [], _ => by simp [preI]
  | [], _ :: _, h => by simp at h
  | _ :: _, [], h => by simp at h
  | a :: K, g :: F, h => by
    simp only [List.cons_append, preI]
    rw [preI_snoc k f K F (by simpa using h)]
    simp
theorem preF_snoc {d : Nat} (k : Kv) (c : T d) (K : List Kv) (A : List (T d)) (h : K.length = A.length) : preF d (K ++ [k]) (A ++ [c]) = preF d K A ++ flat d c ++ [k] := by
  unfold preF
  rw [List.map_append]
  exact preI_snoc k (flat d c) K (A.map (flat d)) (by simpa using h)
structure FillP {d : Nat} (K1 K2 : List Kv) (A : List (Nat × T d)) (e : Nat × T d) (B : List (Nat × T d)) (key : Ky) (K1' K2' : List Kv) (A' : List (Nat × T d)) (e' : Nat × T d) (B' : List (Nat × T d)) : Prop where
  hA : K1'.length = A'.length
  hB : K2'.length = B'.length
  hw : ∀ c ∈ A' ++ B', wf 3 d c.2
  he : wf 4 d e'.2
  low : K1.length + K2.length ≤ K1'.length + K2'.length + 1
  top : K1'.length + K2'.length ≤ K1.length + K2.length
  fl : flat (d + 1) (K1' ++ K2', A'.map (·.2) ++ e'.2 :: B'.map (·.2)) = flat (d + 1) (K1 ++ K2, A.map (·.2) ++ e.2 :: B.map (·.2))
  b : Bel K1' key
  a : Abv K2' key
section
variable {d : Nat} {K1 K2 : List Kv} {A B : List (Nat × T d)} {e x : Nat × T d} {k k' : Kv} {key : Ky} {cx cy : T d} {mid : List Kv}
theorem fill_left (hA : K1.length = A.length) (hB : K2.length = B.length) (hw : ∀ c ∈ (A ++ [x]) ++ e :: B, wf 3 d c.2) (hu : Up (flat (d + 1) ((K1 ++ [k]) ++ K2, (A ++ [x]).map (·.2) ++ e.2 :: B.map (·.2)))) (h1 : Bel (K1 ++ [k]) key) (h2 : Abv K2 key)
    (f1 : flat d x.2 = flat d cx ++ k' :: mid) (f2 : flat d cy = mid ++ k :: flat d e.2) (w1 : wf 3 d cx) (w2 : wf 4 d cy) : FillP (K1 ++ [k]) K2 (A ++ [x]) e B key (K1 ++ [k']) K2 (A ++ [(x.1, cx)]) (e.1, cy) B := by
  have hl : (K1 ++ [k]).length = ((A ++ [x]).map (·.2)).length := by simp [hA]
  have hl' : (K1 ++ [k']).length = ((A ++ [(x.1, cx)]).map (·.2)).length := by simp [hA]
  have e1 := flat_at (K1 ++ [k]) K2 ((A ++ [x]).map (·.2)) (B.map (·.2)) e.2 hl
  have e2 := flat_at (K1 ++ [k']) K2 ((A ++ [(x.1, cx)]).map (·.2)) (B.map (·.2)) cy hl'
  rw [List.map_append, List.map_cons, List.map_nil] at e1 e2
  rw [preF_snoc _ _ _ _ (by simpa using hA)] at e1 e2
  have hk : kl k'.key k.key = true := by
    rw [List.map_append, List.map_cons, List.map_nil, e1] at hu
    have h3 := (up_app (up_app hu).1).1
    obtain ⟨hb, _⟩ := up_mid (Y := []) h3
    exact hb k' (by simp [f1])
  refine ⟨by simp [hA], hB, fun c hc => ?_, w2, by simp, by simp, ?_, fun z hz => ?_, h2⟩
  · simp only [List.append_assoc, List.mem_append, List.mem_singleton] at hc hw
    rcases hc with hc | rfl | hc
    · exact hw c (.inl hc)
    · exact w1
    · exact hw c (.inr (.inr (List.mem_cons_of_mem _ hc)))
  · simp only [List.map_append, List.map_cons, List.map_nil]
    rw [e1, e2, f1, f2]; simp
  · rcases List.mem_append.1 hz with hz | hz
    · exact h1 z (by simp [hz])
    · rw [List.mem_singleton] at hz; subst hz
      exact kl_trans hk (h1 k (by simp))
theorem fill_right (hA : K1.length = A.length) (hB : K2.length = B.length) (hw : ∀ c ∈ A ++ e :: x :: B, wf 3 d c.2) (hu : Up (flat (d + 1) (K1 ++ k :: K2, A.map (·.2) ++ e.2 :: (x :: B).map (·.2)))) (h1 : Bel K1 key) (h2 : Abv (k :: K2) key)
    (f1 : flat d x.2 = mid ++ k' :: flat d cy) (f2 : flat d cx = flat d e.2 ++ k :: mid) (w1 : wf 4 d cx) (w2 : wf 3 d cy) : FillP K1 (k :: K2) A e (x :: B) key K1 (k' :: K2) A (e.1, cx) ((x.1, cy) :: B) := by
  have hl : K1.length = (A.map (·.2)).length := by simp [hA]
  have e1 := flat_2 K1 K2 k (A.map (·.2)) (B.map (·.2)) e.2 x.2 hl
  have e2 := flat_2 K1 K2 k' (A.map (·.2)) (B.map (·.2)) cx cy hl
  have hk : kl k.key k'.key = true := by
    rw [List.map_cons, e1] at hu
    have h3 := (up_app (up_app hu).1).2
    obtain ⟨_, hb, _⟩ := up_mid h3
    exact hb k' (by simp [f1])
  refine ⟨hA, by simp [hB], fun c hc => ?_, w1, by simp, by simp, ?_, h1, fun z hz => ?_⟩
  · simp only [List.mem_append, List.mem_cons] at hc hw
    rcases hc with hc | rfl | hc
    · exact hw c (.inl hc)
    · exact w2
    · exact hw c (.inr (.inr (.inr hc)))
  · simp only [List.map_cons]
    rw [e1, e2, f1, f2]; simp
  · rcases List.mem_cons.1 hz with rfl | hz
    · exact kl_trans (h2 k (by simp)) hk
    · exact h2 z (by simp [hz])
theorem fill_mergeR {cm : T d} (hA : K1.length = A.length) (hB : K2.length = B.length) (hw : ∀ c ∈ A ++ e :: x :: B, wf 3 d c.2) (h1 : Bel K1 key) (h2 : Abv (k :: K2) key) (f1 : flat d cm = flat d e.2 ++ k :: flat d x.2) (w1 : wf 4 d cm) : FillP K1 (k :: K2) A e (x :: B) key K1 K2 A (e.1, cm) B := by
  have hl : K1.length = (A.map (·.2)).length := by simp [hA]
  have e1 := flat_2 K1 K2 k (A.map (·.2)) (B.map (·.2)) e.2 x.2 hl
  have e2 := flat_at K1 K2 (A.map (·.2)) (B.map (·.2)) cm hl
  refine ⟨hA, hB, fun c hc => ?_, w1, by simp only [List.length_append, List.length_cons, List.length_nil]; omega, by simp only [List.length_append, List.length_cons, List.length_nil]; omega, ?_, h1, fun z hz => h2 z (by simp [hz])⟩
  · simp only [List.mem_append, List.mem_cons] at hc hw
    rcases hc with hc | hc
    · exact hw c (.inl hc)
    · exact hw c (.inr (.inr (.inr hc)))
  · simp only [List.map_cons]
    rw [e1, e2, f1]
theorem fill_mergeL {cm : T d} (hA : K1.length = A.length) (hB : K2.length = B.length) (hw : ∀ c ∈ (A ++ [x]) ++ e :: B, wf 3 d c.2) (h1 : Bel (K1 ++ [k]) key) (h2 : Abv K2 key) (f1 : flat d cm = flat d x.2 ++ k :: flat d e.2) (w1 : wf 4 d cm) : FillP (K1 ++ [k]) K2 (A ++ [x]) e B key K1 K2 A (x.1, cm) B := by
  have hl : K1.length = (A.map (·.2)).length := by simp [hA]
  have e1 := flat_2 K1 K2 k (A.map (·.2)) (B.map (·.2)) x.2 e.2 hl
  have e2 := flat_at K1 K2 (A.map (·.2)) (B.map (·.2)) cm hl
  refine ⟨hA, hB, fun c hc => ?_, w1, by simp only [List.length_append, List.length_cons, List.length_nil]; omega, by simp only [List.length_append, List.length_cons, List.length_nil]; omega, ?_, fun z hz => h1 z (by simp [hz]), h2⟩
  · simp only [List.append_assoc, List.mem_append, List.mem_singleton] at hc hw
    rcases hc with hc | hc
    · exact hw c (.inl hc)
    · exact hw c (.inr (.inr (List.mem_cons_of_mem _ hc)))
  · simp only [List.map_append, List.map_cons, List.map_nil, List.append_assoc, List.singleton_append]
    rw [e1, e2, f1]
end
attribute [local irreducible] J JL QOp JOp seqQ blockQ loopQ retQ slc cel hex star pur stars Does RV Ent pAt scopeQ
attribute [local irreducible] nodeA nodeX treeA
theorem fill_ok (E : World) (d p : Nat) (S R : SV) (K1 K2 : List Kv) (A B : List (Nat × T d)) (e : Nat × T d) (key : Ky) (hA : K1.length = A.length) (hB : K2.length = B.length) (hw : ∀ c ∈ A ++ e :: B, wf 3 d c.2) (hn : 1 ≤ K1.length + K2.length) (h7 : K1.length + K2.length ≤ 7) (hu : Up (flat (d + 1) (K1 ++ K2, A.map (·.2) ++ e.2 :: B.map (·.2)))) (hk1 : Bel K1 key) (hk2 : Abv K2 key) :
    Does Tryz.prog E 118 [.pointer (some ⟨p, 0, none⟩), .int .i64 (A.length : Int)] [ndC p S R, slc tKv true S (K1 ++ K2), slc tNd true R (pL (A ++ e :: B)), stars ((A ++ e :: B).map (ndE d))]
    fun v L => ∃ (S' R' : SV) (K1' K2' : List Kv) (A' : List (Nat × T d)) (e' : Nat × T d) (B' : List (Nat × T d)), FillP K1 K2 A e B key K1' K2' A' e' B' ∧ v = .pointer (some ⟨e'.1, 0, none⟩) ∧ L = [ndC p S' R', slc tKv true S' (K1' ++ K2'), slc tNd true R' (pL (A' ++ e' :: B')), stars ((A' ++ e' :: B').map (ndE d))] := by
  have hwe : wf 3 d e.2 := hw e (by simp)
  have hPl : A.length < (pL (A ++ e :: B)).length := by rw [pL_len]; simp
  have hPg : (pL (A ++ e :: B))[A.length] = some e.1 := mid_get _ A B e hPl
  have hw3 := (wf_ks hwe).1
  have hw7 := (wf_ks hwe).2
  refine Does.of Tryz.func118 rfl Tryz.ntmps118 rfl rfl fun F => ?_
  refine J.norm ?_
  refine J_seq ?_
  refine J_region ?_
  refine L_q (Q_assign rfl) rfl rfl rfl ?_
  refine JL_nil ?_
  refine seqQ_normal ?_
  refine J_seq ?_
  refine J_block ?_
  refine J_seq ?_
  refine J.cut (fun x ρ' L' => x = .normal ∧ ∃ (S' R' : SV) (K1' K2' : List Kv) (A' : List (Nat × T d)) (e' : Nat × T d) (B' : List (Nat × T d)), FillP K1 K2 A e B key K1' K2' A' e' B' ∧ envSub [(0, .pointer (some ⟨p, 0, none⟩)), (1, .int .i64 (A'.length : Int))] ρ' ∧ Ent L' [ndC p S' R', slc tKv true S' (K1' ++ K2'), slc tNd true R' (pL (A' ++ e' :: B')), stars ((A' ++ e' :: B').map (ndE d)), F]) ?_ ?_
  · refine J.ent ((Ent.re [3, 0, 1, 2, 4] rfl).trans (Ent.mid_out (ndE d) A e B)) ?_
    refine J.peek fun Sc Rc X hX => ?_
    have hclose : Ent (ndC e.1 Sc Rc :: slc tKv true Sc (tks d e.2) :: X :: stars ((A ++ B).map (ndE d)) :: ndC p S R :: slc tKv true S (K1 ++ K2) :: slc tNd true R (pL (A ++ e :: B)) :: F :: []) [ndC p S R, slc tKv true S (K1 ++ K2), slc tNd true R (pL (A ++ e :: B)), stars ((A ++ e :: B).map (ndE d)), F] := ((hX _).trans (Ent.mid_in (ndE d) A e B)).trans (Ent.re [1, 2, 3, 0, 4] rfl)
    by_cases c1 : 3 < (tks d e.2).length
    · skip
      refine J_region ?_
      refine L_q (Q_move rfl) rfl rfl rfl ?_
      refine L_q (Q_nilCheck rfl) rfl rfl rfl ?_
      refine L_q (Q_fa0 rfl) rfl rfl rfl ?_
      refine L_q (Q_ld 4 rfl rfl rfl rfl) rfl rfl rfl ?_
      refine L_q (Q_move rfl) rfl rfl rfl ?_
      refine L_q (Q_ixAt 6 A.length rfl rfl rfl rfl hPl rfl) rfl rfl rfl ?_
      refine L_q (Q_ldEAt 6 A.length 0 (v := .pointer (some ⟨e.1, 0, none⟩)) rfl rfl rfl rfl hPl (by decide) (by rw [hPg]; rfl)) rfl rfl rfl ?_
      refine L_q (Q_nilCheck rfl) rfl rfl rfl ?_
      refine L_q (Q_fa0 rfl) rfl rfl rfl ?_
      refine L_q (Q_ld 0 rfl rfl rfl rfl) rfl rfl rfl ?_
      refine L_q (Q_lenAt 1 rfl rfl) rfl rfl rfl ?_
      refine L_q ((Q_gtr rfl rfl).as (v' := .bool true) (congrArg Value.bool (decide_eq_true (by omega)))) rfl rfl rfl ?_
      refine L_q (Q_assign rfl) rfl rfl rfl ?_
      refine JL_nil ?_
      refine seqQ_normal ?_
      refine J_condT rfl ?_
      refine J_skip ?_
      refine blockQ_normal ?_
      exact ⟨rfl, S, R, K1, K2, A, e, B, ⟨hA, hB, fun c hc => hw c (by simp only [List.mem_append, List.mem_cons] at hc ⊢; exact hc.elim .inl (fun h => .inr (.inr h))), wf_mk hwe c1, by omega, Nat.le_refl _, rfl, hk1, hk2⟩, ⟨rfl, rfl, trivial⟩, hclose⟩
    · have h3 : (tks d e.2).length = 3 := by omega
      refine J_region ?_
      refine L_q (Q_move rfl) rfl rfl rfl ?_
      refine L_q (Q_nilCheck rfl) rfl rfl rfl ?_
      refine L_q (Q_fa0 rfl) rfl rfl rfl ?_
      refine L_q (Q_ld 4 rfl rfl rfl rfl) rfl rfl rfl ?_
      refine L_q (Q_move rfl) rfl rfl rfl ?_
      refine L_q (Q_ixAt 6 A.length rfl rfl rfl rfl hPl rfl) rfl rfl rfl ?_
      refine L_q (Q_ldEAt 6 A.length 0 (v := .pointer (some ⟨e.1, 0, none⟩)) rfl rfl rfl rfl hPl (by decide) (by rw [hPg]; rfl)) rfl rfl rfl ?_
      refine L_q (Q_nilCheck rfl) rfl rfl rfl ?_
      refine L_q (Q_fa0 rfl) rfl rfl rfl ?_
      refine L_q (Q_ld 0 rfl rfl rfl rfl) rfl rfl rfl ?_
      refine L_q (Q_lenAt 1 rfl rfl) rfl rfl rfl ?_
      refine L_q ((Q_gtr rfl rfl).as (v' := .bool false) (congrArg Value.bool (decide_eq_false (by omega)))) rfl rfl rfl ?_
      refine L_q (Q_assign rfl) rfl rfl rfl ?_
      refine JL_nil ?_
      refine seqQ_normal ?_
      refine J_condF rfl ?_
      refine J_seq ?_
      refine J.ent hclose ?_
      refine J.mid (fun ρ' L' => ∃ b : Bool, (b = true → ∃ A2 x, A = A2 ++ [x] ∧ 3 < (tks d x.2).length) ∧ (b = false → ∀ A2 x, A = A2 ++ [x] → (tks d x.2).length = 3) ∧ envSub [(0, .pointer (some ⟨p, 0, none⟩)), (1, .int .i64 (A.length : Int)), (24, .bool b)] ρ' ∧ Ent L' [ndC p S R, slc tKv true S (K1 ++ K2), slc tNd true R (pL (A ++ e :: B)), stars ((A ++ e :: B).map (ndE d)), F]) ?_ ?_
      · rcases Nat.eq_zero_or_pos A.length with c2 | c2
        · skip
          refine J_region ?_
          refine L_q (Q_move rfl) rfl rfl rfl ?_
          refine L_q ((Q_gtr rfl rfl).as (v' := .bool false) (congrArg Value.bool (decide_eq_false (by omega)))) rfl rfl rfl ?_
          refine L_q (Q_move rfl) rfl rfl rfl ?_
          refine L_n rfl rfl rfl ?_
          refine L_n rfl rfl rfl ?_
          refine L_n rfl rfl rfl ?_
          refine L_n rfl rfl rfl ?_
          refine L_n rfl rfl rfl ?_
          refine L_n rfl rfl rfl ?_
          refine L_n rfl rfl rfl ?_
          refine L_n rfl rfl rfl ?_
          refine L_n rfl rfl rfl ?_
          refine L_n rfl rfl rfl ?_
          refine L_n rfl rfl rfl ?_
          refine L_n rfl rfl rfl ?_
          refine L_n rfl rfl rfl ?_
          refine L_q (Q_pickF rfl rfl) rfl rfl rfl ?_
          refine L_q (Q_assign rfl) rfl rfl rfl ?_
          refine JL_nil ?_
          exact ⟨rfl, false, fun h => Bool.noConfusion h, fun _ A2 x h => by rw [h] at c2; simp at c2, ⟨rfl, rfl, rfl, trivial⟩, Ent.refl _⟩
        · obtain ⟨A2, x, rfl⟩ := snoc_of c2
          have hwx : wf 3 d x.2 := hw x (by simp)
          have hx3 := (wf_ks hwx).1
          have hxl : (A2 ++ [x]).length = A2.length + 1 := by simp
          have hPx : A2.length < (pL ((A2 ++ [x]) ++ e :: B)).length := by rw [pL_len]; simp only [List.length_append, List.length_cons, List.length_nil]; omega
          have hPxg : (pL ((A2 ++ [x]) ++ e :: B))[A2.length] = some x.1 := by
            have h := mid_get (fun x : Nat × T d => some x.1) A2 (e :: B) x (by simp)
            simp only [pL, List.append_assoc, List.singleton_append]; exact h
          rw [show stars (((A2 ++ [x]) ++ e :: B).map (ndE d)) = stars ((A2 ++ x :: (e :: B)).map (ndE d)) by rw [List.append_assoc]; rfl]
          refine J.ent ((Ent.re [3, 0, 1, 2, 4] rfl).trans (Ent.mid_out (ndE d) A2 x (e :: B))) ?_
          refine J.peek fun Sd Rd Z hZ => ?_
          have hcl2 : Ent (ndC x.1 Sd Rd :: slc tKv true Sd (tks d x.2) :: Z :: stars ((A2 ++ e :: B).map (ndE d)) :: ndC p S R :: slc tKv true S (K1 ++ K2) :: slc tNd true R (pL ((A2 ++ [x]) ++ e :: B)) :: F :: []) [ndC p S R, slc tKv true S (K1 ++ K2), slc tNd true R (pL ((A2 ++ [x]) ++ e :: B)), stars ((A2 ++ x :: (e :: B)).map (ndE d)), F] := ((hZ _).trans (Ent.mid_in (ndE d) A2 x (e :: B))).trans (Ent.re [1, 2, 3, 0, 4] rfl)
          by_cases hb : 3 < (tks d x.2).length
          · skip
            refine J_region ?_
            refine L_q (Q_move rfl) rfl rfl rfl ?_
            refine L_q ((Q_gtr rfl rfl).as (v' := .bool true) (congrArg Value.bool (decide_eq_true (by omega)))) rfl rfl rfl ?_
            refine L_q (Q_move rfl) rfl rfl rfl ?_
            refine L_q (Q_move rfl) rfl rfl rfl ?_
            refine L_q (Q_nilCheck rfl) rfl rfl rfl ?_
            refine L_q (Q_fa0 rfl) rfl rfl rfl ?_
            refine L_q (Q_ld 4 rfl rfl rfl rfl) rfl rfl rfl ?_
            refine L_q (Q_move rfl) rfl rfl rfl ?_
            refine L_q (Q_sub (r := (A2.length : Int)) rfl rfl (by rw [show ((A2 ++ [x]).length : Int) - 1 = (A2.length : Int) by omega]; exact IntWalk.i64_in _ (by omega))) rfl rfl rfl ?_
            refine L_q (Q_ixAt 6 A2.length rfl rfl rfl rfl hPx rfl) rfl rfl rfl ?_
            refine L_q (Q_ldEAt 6 A2.length 0 (v := .pointer (some ⟨x.1, 0, none⟩)) rfl rfl rfl rfl hPx (by decide) (by rw [hPxg]; rfl)) rfl rfl rfl ?_
            refine L_q (Q_nilCheck rfl) rfl rfl rfl ?_
            refine L_q (Q_fa0 rfl) rfl rfl rfl ?_
            refine L_q (Q_ld 0 rfl rfl rfl rfl) rfl rfl rfl ?_
            refine L_q (Q_lenAt 1 rfl rfl) rfl rfl rfl ?_
            refine L_q ((Q_gtr rfl rfl).as (v' := .bool true) (congrArg Value.bool (decide_eq_true (by omega)))) rfl rfl rfl ?_
            refine L_q (Q_pickT rfl rfl) rfl rfl rfl ?_
            refine L_q (Q_assign rfl) rfl rfl rfl ?_
            refine JL_nil ?_
            exact ⟨rfl, true, fun _ => ⟨A2, x, rfl, hb⟩, fun h => Bool.noConfusion h, ⟨rfl, rfl, rfl, trivial⟩, hcl2⟩
          · skip
            refine J_region ?_
            refine L_q (Q_move rfl) rfl rfl rfl ?_
            refine L_q ((Q_gtr rfl rfl).as (v' := .bool true) (congrArg Value.bool (decide_eq_true (by omega)))) rfl rfl rfl ?_
            refine L_q (Q_move rfl) rfl rfl rfl ?_
            refine L_q (Q_move rfl) rfl rfl rfl ?_
            refine L_q (Q_nilCheck rfl) rfl rfl rfl ?_
            refine L_q (Q_fa0 rfl) rfl rfl rfl ?_
            refine L_q (Q_ld 4 rfl rfl rfl rfl) rfl rfl rfl ?_
            refine L_q (Q_move rfl) rfl rfl rfl ?_
            refine L_q (Q_sub (r := (A2.length : Int)) rfl rfl (by rw [show ((A2 ++ [x]).length : Int) - 1 = (A2.length : Int) by omega]; exact IntWalk.i64_in _ (by omega))) rfl rfl rfl ?_
            refine L_q (Q_ixAt 6 A2.length rfl rfl rfl rfl hPx rfl) rfl rfl rfl ?_
            refine L_q (Q_ldEAt 6 A2.length 0 (v := .pointer (some ⟨x.1, 0, none⟩)) rfl rfl rfl rfl hPx (by decide) (by rw [hPxg]; rfl)) rfl rfl rfl ?_
            refine L_q (Q_nilCheck rfl) rfl rfl rfl ?_
            refine L_q (Q_fa0 rfl) rfl rfl rfl ?_
            refine L_q (Q_ld 0 rfl rfl rfl rfl) rfl rfl rfl ?_
            refine L_q (Q_lenAt 1 rfl rfl) rfl rfl rfl ?_
            refine L_q ((Q_gtr rfl rfl).as (v' := .bool false) (congrArg Value.bool (decide_eq_false (by omega)))) rfl rfl rfl ?_
            refine L_q (Q_pickT rfl rfl) rfl rfl rfl ?_
            refine L_q (Q_assign rfl) rfl rfl rfl ?_
            refine JL_nil ?_
            refine ⟨rfl, false, fun h => Bool.noConfusion h, fun _ A3 y hy => ?_, ⟨rfl, rfl, rfl, trivial⟩, hcl2⟩
            obtain ⟨_, h9⟩ := List.append_inj' hy rfl
            obtain rfl : x = y := by simpa using h9
            omega
      rintro ρ4 L4 ⟨b, hb1, hb2, hsub, hent⟩
      refine J.sub hsub ?_
      refine J.ent hent ?_
      clear hsub hent
      cases b with
      | true =>
        obtain ⟨A2, x, rfl, hx⟩ := hb1 rfl
        obtain ⟨K1, k, rfl⟩ := snoc_of (l := K1) (by simp at hA; omega)
        have hA2 : K1.length = A2.length := by simpa using hA
        have hwx : wf 3 d x.2 := hw x (by simp)
        have eP : pL ((A2 ++ [x]) ++ e :: B) = pL (A2 ++ x :: e :: B) := by rw [List.append_assoc]; rfl
        have eS : ((A2 ++ [x]) ++ e :: B).map (ndE d) = (A2 ++ x :: e :: B).map (ndE d) := by rw [List.append_assoc]; rfl
        have eK : (K1 ++ [k]) ++ K2 = K1 ++ k :: K2 := by rw [List.append_assoc]; rfl
        have eI : ((A2 ++ [x]).length : Int) = ((A2.length + 1 : Nat) : Int) := by simp
        rw [eP, eS, eK]
        refine J.sub (e := [(0, .pointer (some ⟨p, 0, none⟩)), (1, .int .i64 ((A2.length + 1 : Nat) : Int)), (24, .bool true)]) ⟨rfl, by rw [← eI]; rfl, rfl, trivial⟩ ?_
        refine J_condT rfl ?_
        refine J_region ?_
        refine L_q (Q_move rfl) rfl rfl rfl ?_
        refine L_q (Q_move rfl) rfl rfl rfl ?_
        refine L_o rfl rfl rfl (O_call [0,1,2,3] [4] (fromLeft_ok E d p S R K1 K2 k A2 B x e hA2 (wf_mk hwx hx) hwe (by omega) (by simp at h7; omega) (by simp at hA h7; omega)) rfl rfl ?_)
        rintro _ _ ⟨rfl, k', cx, cy, mid, f1, f2, w1, w2, rfl⟩
        refine JL.norm ?_
        refine JL_nil ?_
        refine blockQ_normal ?_
        refine ⟨rfl, S, R, _, _, _, _, _, fill_left hA2 hB hw hu hk1 hk2 f1 f2 w1 w2, ⟨rfl, by rw [show ((A2 ++ [(x.1, cx)]).length : Int) = ((A2.length + 1 : Nat) : Int) by simp]; rfl, trivial⟩, ?_⟩
        rw [show (K1 ++ [k']) ++ K2 = K1 ++ k' :: K2 by rw [List.append_assoc]; rfl, show (A2 ++ [(x.1, cx)]) ++ (e.1, cy) :: B = A2 ++ (x.1, cx) :: (e.1, cy) :: B by rw [List.append_assoc]; rfl]
        exact Ent.refl _
      | false =>
        refine J_condF rfl ?_
        refine J_seq ?_
        refine J.mid (fun ρ' L' => ∃ b : Bool, (b = true → ∃ x B2, B = x :: B2 ∧ 3 < (tks d x.2).length) ∧ (b = false → ∀ x B2, B = x :: B2 → (tks d x.2).length = 3) ∧ envSub [(0, .pointer (some ⟨p, 0, none⟩)), (1, .int .i64 (A.length : Int)), (45, .bool b)] ρ' ∧ Ent L' [ndC p S R, slc tKv true S (K1 ++ K2), slc tNd true R (pL (A ++ e :: B)), stars ((A ++ e :: B).map (ndE d)), F]) ?_ ?_
        · cases B with
          | nil =>
            have hK0 : K2.length = 0 := hB
            refine J_region ?_
            refine L_q (Q_move rfl) rfl rfl rfl ?_
            refine L_q (Q_move rfl) rfl rfl rfl ?_
            refine L_q (Q_nilCheck rfl) rfl rfl rfl ?_
            refine L_q (Q_fa0 rfl) rfl rfl rfl ?_
            refine L_q (Q_ld 0 rfl rfl rfl rfl) rfl rfl rfl ?_
            refine L_q (Q_lenAt 1 rfl rfl) rfl rfl rfl ?_
            refine L_q ((Q_lss rfl rfl).as (v' := .bool false) (congrArg Value.bool (decide_eq_false (by simp only [List.length_append]; omega)))) rfl rfl rfl ?_
            refine L_q (Q_move rfl) rfl rfl rfl ?_
            refine L_n rfl rfl rfl ?_
            refine L_n rfl rfl rfl ?_
            refine L_n rfl rfl rfl ?_
            refine L_n rfl rfl rfl ?_
            refine L_n rfl rfl rfl ?_
            refine L_n rfl rfl rfl ?_
            refine L_n rfl rfl rfl ?_
            refine L_n rfl rfl rfl ?_
            refine L_n rfl rfl rfl ?_
            refine L_n rfl rfl rfl ?_
            refine L_n rfl rfl rfl ?_
            refine L_n rfl rfl rfl ?_
            refine L_n rfl rfl rfl ?_
            refine L_q (Q_pickF rfl rfl) rfl rfl rfl ?_
            refine L_q (Q_assign rfl) rfl rfl rfl ?_
            refine JL_nil ?_
            exact ⟨rfl, false, fun h => Bool.noConfusion h, fun _ x B2 h => (nomatch h), ⟨rfl, rfl, rfl, trivial⟩, Ent.refl _⟩
          | cons x B2 =>
            have hwx : wf 3 d x.2 := hw x (by simp)
            have hx3 := (wf_ks hwx).1
            have hPx : A.length + 1 < (pL (A ++ e :: x :: B2)).length := by rw [pL_len]; simp
            have hPxg := pL_get2 A B2 e x hPx
            have eS : A ++ e :: x :: B2 = (A ++ [e]) ++ x :: B2 := by simp
            rw [show stars ((A ++ e :: x :: B2).map (ndE d)) = stars (((A ++ [e]) ++ x :: B2).map (ndE d)) by rw [eS]]
            refine J.ent ((Ent.re [3, 0, 1, 2, 4] rfl).trans (Ent.mid_out (ndE d) (A ++ [e]) x B2)) ?_
            refine J.peek fun Sd Rd Z hZ => ?_
            have hcl2 : Ent (ndC x.1 Sd Rd :: slc tKv true Sd (tks d x.2) :: Z :: stars (((A ++ [e]) ++ B2).map (ndE d)) :: ndC p S R :: slc tKv true S (K1 ++ K2) :: slc tNd true R (pL (A ++ e :: x :: B2)) :: F :: []) [ndC p S R, slc tKv true S (K1 ++ K2), slc tNd true R (pL (A ++ e :: x :: B2)), stars (((A ++ [e]) ++ x :: B2).map (ndE d)), F] := ((hZ _).trans (Ent.mid_in (ndE d) (A ++ [e]) x B2)).trans (Ent.re [1, 2, 3, 0, 4] rfl)
            by_cases hb : 3 < (tks d x.2).length
            · skip
              refine J_region ?_
              refine L_q (Q_move rfl) rfl rfl rfl ?_
              refine L_q (Q_move rfl) rfl rfl rfl ?_
              refine L_q (Q_nilCheck rfl) rfl rfl rfl ?_
              refine L_q (Q_fa0 rfl) rfl rfl rfl ?_
              refine L_q (Q_ld 4 rfl rfl rfl rfl) rfl rfl rfl ?_
              refine L_q (Q_lenAt 5 rfl rfl) rfl rfl rfl ?_
              refine L_q ((Q_lss rfl rfl).as (v' := .bool true) (congrArg Value.bool (decide_eq_true (by simp at hB ⊢; omega)))) rfl rfl rfl ?_
              refine L_q (Q_move rfl) rfl rfl rfl ?_
              refine L_q (Q_move rfl) rfl rfl rfl ?_
              refine L_q (Q_nilCheck rfl) rfl rfl rfl ?_
              refine L_q (Q_fa0 rfl) rfl rfl rfl ?_
              refine L_q (Q_ld 4 rfl rfl rfl rfl) rfl rfl rfl ?_
              refine L_q (Q_move rfl) rfl rfl rfl ?_
              refine L_q (Q_add rfl rfl (by first | exact IntWalk.i64_in _ (by omega) | exact IntWalk.u8_in _ (by omega) | exact IntWalk.u32_in _ (by omega) | exact IntWalk.u64_in _ (by omega) | rfl)) rfl rfl rfl ?_
              refine L_q (Q_ixAt 6 (A.length + 1) rfl rfl rfl rfl hPx rfl) rfl rfl rfl ?_
              refine L_q (Q_ldEAt 6 (A.length + 1) 0 (v := .pointer (some ⟨x.1, 0, none⟩)) rfl rfl rfl rfl hPx (by decide) (by rw [hPxg]; rfl)) rfl rfl rfl ?_
              refine L_q (Q_nilCheck rfl) rfl rfl rfl ?_
              refine L_q (Q_fa0 rfl) rfl rfl rfl ?_
              refine L_q (Q_ld 0 rfl rfl rfl rfl) rfl rfl rfl ?_
              refine L_q (Q_lenAt 1 rfl rfl) rfl rfl rfl ?_
              refine L_q ((Q_gtr rfl rfl).as (v' := .bool true) (congrArg Value.bool (decide_eq_true (by omega)))) rfl rfl rfl ?_
              refine L_q (Q_pickT rfl rfl) rfl rfl rfl ?_
              refine L_q (Q_assign rfl) rfl rfl rfl ?_
              refine JL_nil ?_
              exact ⟨rfl, true, fun _ => ⟨x, B2, rfl, hb⟩, fun h => Bool.noConfusion h, ⟨rfl, rfl, rfl, trivial⟩, hcl2⟩
            · skip
              refine J_region ?_
              refine L_q (Q_move rfl) rfl rfl rfl ?_
              refine L_q (Q_move rfl) rfl rfl rfl ?_
              refine L_q (Q_nilCheck rfl) rfl rfl rfl ?_
              refine L_q (Q_fa0 rfl) rfl rfl rfl ?_
              refine L_q (Q_ld 4 rfl rfl rfl rfl) rfl rfl rfl ?_
              refine L_q (Q_lenAt 5 rfl rfl) rfl rfl rfl ?_
              refine L_q ((Q_lss rfl rfl).as (v' := .bool true) (congrArg Value.bool (decide_eq_true (by simp at hB ⊢; omega)))) rfl rfl rfl ?_
              refine L_q (Q_move rfl) rfl rfl rfl ?_
              refine L_q (Q_move rfl) rfl rfl rfl ?_
              refine L_q (Q_nilCheck rfl) rfl rfl rfl ?_
              refine L_q (Q_fa0 rfl) rfl rfl rfl ?_
              refine L_q (Q_ld 4 rfl rfl rfl rfl) rfl rfl rfl ?_
              refine L_q (Q_move rfl) rfl rfl rfl ?_
              refine L_q (Q_add rfl rfl (by first | exact IntWalk.i64_in _ (by omega) | exact IntWalk.u8_in _ (by omega) | exact IntWalk.u32_in _ (by omega) | exact IntWalk.u64_in _ (by omega) | rfl)) rfl rfl rfl ?_
              refine L_q (Q_ixAt 6 (A.length + 1) rfl rfl rfl rfl hPx rfl) rfl rfl rfl ?_
              refine L_q (Q_ldEAt 6 (A.length + 1) 0 (v := .pointer (some ⟨x.1, 0, none⟩)) rfl rfl rfl rfl hPx (by decide) (by rw [hPxg]; rfl)) rfl rfl rfl ?_
              refine L_q (Q_nilCheck rfl) rfl rfl rfl ?_
              refine L_q (Q_fa0 rfl) rfl rfl rfl ?_
              refine L_q (Q_ld 0 rfl rfl rfl rfl) rfl rfl rfl ?_
              refine L_q (Q_lenAt 1 rfl rfl) rfl rfl rfl ?_
              refine L_q ((Q_gtr rfl rfl).as (v' := .bool false) (congrArg Value.bool (decide_eq_false (by omega)))) rfl rfl rfl ?_
              refine L_q (Q_pickT rfl rfl) rfl rfl rfl ?_
              refine L_q (Q_assign rfl) rfl rfl rfl ?_
              refine JL_nil ?_
              refine ⟨rfl, false, fun h => Bool.noConfusion h, fun _ y B3 hy => ?_, ⟨rfl, rfl, rfl, trivial⟩, hcl2⟩
              obtain ⟨rfl, _⟩ := List.cons.inj hy
              omega
        rintro ρ6 L6 ⟨b, hr1, hr2, hsub, hent⟩
        refine J.sub hsub ?_
        refine J.ent hent ?_
        clear hsub hent
        cases b with
        | true =>
          obtain ⟨x, B2, rfl, hx⟩ := hr1 rfl
          obtain ⟨k, K2, rfl⟩ := cons_of (l := K2) (by simp at hB; omega)
          have hB2 : K2.length = B2.length := by simpa using hB
          have hwx : wf 3 d x.2 := hw x (by simp)
          refine J_condT rfl ?_
          refine J_region ?_
          refine L_q (Q_move rfl) rfl rfl rfl ?_
          refine L_q (Q_move rfl) rfl rfl rfl ?_
          refine L_o rfl rfl rfl (O_call [0,1,2,3] [4] (fromRight_ok E d p S R K1 K2 k A B2 e x hA hwe (wf_mk hwx hx) (by omega) (by simp at h7; omega) (by simp at hB h7; omega)) rfl rfl ?_)
          rintro _ _ ⟨rfl, k', cx, cy, mid, f1, f2, w1, w2, rfl⟩
          refine JL.norm ?_
          refine JL_nil ?_
          refine blockQ_normal ?_
          exact ⟨rfl, S, R, _, _, _, _, _, fill_right hA hB2 hw hu hk1 hk2 f1 f2 w1 w2, ⟨rfl, rfl, trivial⟩, Ent.refl _⟩
        | false =>
          refine J_condF rfl ?_
          refine J_seq ?_
          cases B with
          | cons x B2 =>
            obtain ⟨k, K2, rfl⟩ := cons_of (l := K2) (by simp at hB; omega)
            have hB2 : K2.length = B2.length := by simpa using hB
            have hwx : wf 3 d x.2 := hw x (by simp)
            refine J_region ?_
            refine L_q (Q_move rfl) rfl rfl rfl ?_
            refine L_q (Q_move rfl) rfl rfl rfl ?_
            refine L_q (Q_nilCheck rfl) rfl rfl rfl ?_
            refine L_q (Q_fa0 rfl) rfl rfl rfl ?_
            refine L_q (Q_ld 0 rfl rfl rfl rfl) rfl rfl rfl ?_
            refine L_q (Q_lenAt 1 rfl rfl) rfl rfl rfl ?_
            refine L_q ((Q_lss rfl rfl).as (v' := .bool true) (congrArg Value.bool (decide_eq_true (by simp; omega)))) rfl rfl rfl ?_
            refine L_q (Q_assign rfl) rfl rfl rfl ?_
            refine JL_nil ?_
            refine seqQ_normal ?_
            refine J_condT rfl ?_
            refine J_region ?_
            refine L_q (Q_move rfl) rfl rfl rfl ?_
            refine L_q (Q_move rfl) rfl rfl rfl ?_
            refine L_o rfl rfl rfl (O_call [0,1,2,3] [4] (merge_ok E d p S R K1 K2 k A B2 e x hA hwe hwx h3 (hr2 rfl x B2 rfl) (by simp at h7; omega) (by simp at hB h7; omega)) rfl rfl ?_)
            rintro _ _ ⟨rfl, S', R', cm, f1, w1, _, rfl⟩
            refine JL.norm ?_
            refine JL_nil ?_
            refine blockQ_normal ?_
            exact ⟨rfl, S', R', _, _, _, _, _, fill_mergeR hA hB2 hw hk1 hk2 f1 (wf_mk w1 (by omega)), ⟨rfl, rfl, trivial⟩, Ent.refl _⟩
          | nil =>
            have hK2 : K2 = [] := List.eq_nil_of_length_eq_zero (by simpa using hB)
            subst hK2
            obtain ⟨A2, x, rfl⟩ := snoc_of (l := A) (by simp at hn; omega)
            obtain ⟨K1, k, rfl⟩ := snoc_of (l := K1) (by simp at hA; omega)
            have hA2 : K1.length = A2.length := by simpa using hA
            have hwx : wf 3 d x.2 := hw x (by simp)
            have eP : pL ((A2 ++ [x]) ++ e :: []) = pL (A2 ++ x :: e :: []) := by rw [List.append_assoc]; rfl
            have eS : ((A2 ++ [x]) ++ e :: []).map (ndE d) = (A2 ++ x :: e :: []).map (ndE d) := by rw [List.append_assoc]; rfl
            have eK : (K1 ++ [k]) ++ [] = K1 ++ k :: [] := by rw [List.append_assoc]; rfl
            have eI : ((A2 ++ [x]).length : Int) - 1 = (A2.length : Int) := by simp
            refine J_region ?_
            refine L_q (Q_move rfl) rfl rfl rfl ?_
            refine L_q (Q_move rfl) rfl rfl rfl ?_
            refine L_q (Q_nilCheck rfl) rfl rfl rfl ?_
            refine L_q (Q_fa0 rfl) rfl rfl rfl ?_
            refine L_q (Q_ld 0 rfl rfl rfl rfl) rfl rfl rfl ?_
            refine L_q (Q_lenAt 1 rfl rfl) rfl rfl rfl ?_
            refine L_q ((Q_lss rfl rfl).as (v' := .bool false) (congrArg Value.bool (decide_eq_false (by simp at hA ⊢; omega)))) rfl rfl rfl ?_
            refine L_q (Q_assign rfl) rfl rfl rfl ?_
            refine JL_nil ?_
            refine seqQ_normal ?_
            refine J_condF rfl ?_
            refine J_seq ?_
            rw [eP, eS, eK]
            refine J_region ?_
            refine L_q (Q_move rfl) rfl rfl rfl ?_
            refine L_q (Q_move rfl) rfl rfl rfl ?_
            refine L_q (Q_sub (r := (A2.length : Int)) rfl rfl (by rw [eI]; exact IntWalk.i64_in _ (by simp at hA h7; omega))) rfl rfl rfl ?_
            refine L_o rfl rfl rfl (O_call [0,1,2,3] [4] (merge_ok E d p S R K1 [] k A2 [] x e hA2 hwx hwe (hb2 rfl A2 x rfl) h3 (by simp at h7 ⊢; omega) (by simp at hA h7 ⊢; omega)) rfl rfl ?_)
            rintro _ _ ⟨rfl, S', R', cm, f1, w1, _, rfl⟩
            refine JL.norm ?_
            refine JL_nil ?_
            refine seqQ_normal ?_
            refine J_region ?_
            refine L_q (Q_move rfl) rfl rfl rfl ?_
            refine L_q (Q_sub (r := (A2.length : Int)) rfl rfl (by rw [eI]; exact IntWalk.i64_in _ (by simp at hA h7; omega))) rfl rfl rfl ?_
            refine L_q (Q_assign rfl) rfl rfl rfl ?_
            refine JL_nil ?_
            refine blockQ_normal ?_
            exact ⟨rfl, S', R', _, _, _, _, _, fill_mergeL hA2 hB hw hk1 hk2 f1 (wf_mk w1 (by omega)), ⟨rfl, rfl, trivial⟩, Ent.refl _⟩
  rintro _ ρ' L' ⟨rfl, S', R', K1', K2', A', e', B', hF, hsub, hent⟩
  refine seqQ_normal ?_
  refine J.sub hsub ?_
  refine J.ent hent ?_
  have hP2 : A'.length < (pL (A' ++ e' :: B')).length := by rw [pL_len]; simp
  have hP2g : (pL (A' ++ e' :: B'))[A'.length] = some e'.1 := mid_get _ A' B' e' hP2
  refine J_seq ?_
  refine J_region ?_
  refine L_q (Q_move rfl) rfl rfl rfl ?_
  refine L_q (Q_nilCheck rfl) rfl rfl rfl ?_
  refine L_q (Q_fa0 rfl) rfl rfl rfl ?_
  refine L_q (Q_ld 0 rfl rfl rfl rfl) rfl rfl rfl ?_
  refine L_q (Q_move rfl) rfl rfl rfl ?_
  refine L_q (Q_ixAt 2 A'.length rfl rfl rfl rfl hP2 rfl) rfl rfl rfl ?_
  refine L_q (Q_ldEAt 2 A'.length 0 (v := .pointer (some ⟨e'.1, 0, none⟩)) rfl rfl rfl rfl hP2 (by decide) (by rw [hP2g]; rfl)) rfl rfl rfl ?_
  refine L_q (Q_assign rfl) rfl rfl rfl ?_
  refine JL_nil ?_
  refine seqQ_normal ?_
  refine J_ret ?_
  exact retQ_ret _ _ (.cons (RV_tmp rfl) .nil) ⟨S', R', K1', K2', A', e', B', hF, rfl, rfl⟩ (Ent.refl _)
end Go.Proofs.Bt
/- The first or last pair below a node; a key taken away. -/
set_option autoImplicit false
namespace Go.Proofs.Bt
open Go.SL
theorem flat_last {d : Nat} {K : List Kv} {A : List (T d)} {c : T d} (h : K.length = A.length) : flat (d + 1) (K, A ++ [c]) = preF d K A ++ flat d c := by
  have := flat_at K [] A [] c h
  rw [List.append_nil] at this
  rw [this]; simp [postF, postI]
theorem flat_first {d : Nat} {K : List Kv} {B : List (T d)} {c : T d} : flat (d + 1) (K, c :: B) = flat d c ++ postF d K B := by
  have := flat_at [] K [] B c rfl
  rw [List.nil_append, List.nil_append] at this
  rw [this]; rfl
theorem Ent.foldP {d p : Nat} {S R : SV} {K : List Kv} {A B : List (Nat × T d)} {e : Nat × T d} {G : HProp} : Ent [nodeA d e.1 e.2, stars ((A ++ B).map (ndE d)), ndC p S R, slc tNd true R (pL (A ++ e :: B)), slc tKv true S K, G] [nodeA d e.1 e.2, stars (parL p S R K (pL A ++ some e.1 :: pL B) (A ++ B) G)] := by
  rw [pL_app A B e]
  exact (Ent.re [0, 2, 4, 3, 1, 5] rfl).trans Ent.foldR
section
variable {d : Nat} {K1 K2 : List Kv} {A B : List (T d)} {x y cm : T d} {k u : Ky} {g : Kv} {Z : List Kv}
/-- The key is in the node; the last pair of the child before it takes its place. -/
theorem del_left (hA : K1.length = A.length) (hu : Up (flat (d + 1) (K1 ++ ⟨k, u⟩ :: K2, A ++ x :: y :: B))) (hx : flat d x = Z ++ [g]) :
    Up (flat d x) ∧ hasL (flat d x) g.key = true ∧ delL (flat (d + 1) (K1 ++ ⟨k, u⟩ :: K2, A ++ x :: y :: B)) k = preF d K1 A ++ delL (flat d x) g.key ++ postF d (g :: K2) (y :: B) := by
  have e1 := flat_2 K1 K2 ⟨k, u⟩ A B x y hA
  rw [e1] at hu ⊢
  have h1 := up_app (up_app hu).1
  have h2 := up_mid h1.2
  have hux : Up (flat d x) := h2.2.2.1
  have hux2 := hux
  rw [hx] at hux2
  have h3 := up_mid (Y := []) hux2
  refine ⟨hux, by rw [hx]; exact has_hit g.val, ?_⟩
  have e2 : preF d K1 A ++ (flat d x ++ ⟨k, u⟩ :: flat d y) ++ postF d K2 B = (preF d K1 A ++ flat d x) ++ ⟨k, u⟩ :: (flat d y ++ postF d K2 B) := by simp
  rw [e2] at hu ⊢
  obtain ⟨m1, m2, _, _⟩ := up_mid hu
  have h4 : delL (Z ++ [g]) g.key = Z := by
    have := del_hit (X := Z) (Y := []) (k := g.key) h3.1 (by intro z hz; cases hz) g.val
    rw [List.append_nil] at this
    exact this
  rw [del_hit m1 m2 u, postF_cons, hx, h4]
  simp
theorem del_right (hA : K1.length = A.length) (hu : Up (flat (d + 1) (K1 ++ ⟨k, u⟩ :: K2, A ++ x :: y :: B))) (hy : flat d y = g :: Z) :
    Up (flat d y) ∧ hasL (flat d y) g.key = true ∧ delL (flat (d + 1) (K1 ++ ⟨k, u⟩ :: K2, A ++ x :: y :: B)) k = preF d (K1 ++ [g]) (A ++ [x]) ++ delL (flat d y) g.key ++ postF d K2 B := by
  have e1 := flat_2 K1 K2 ⟨k, u⟩ A B x y hA
  rw [e1] at hu ⊢
  have h1 := up_app (up_app hu).1
  have h2 := up_mid h1.2
  have huy : Up (flat d y) := h2.2.2.2
  have huy2 := huy
  rw [hy] at huy2
  have h3 := up_mid (X := []) huy2
  refine ⟨huy, by rw [hy]; exact has_hit (X := []) g.val, ?_⟩
  have e2 : preF d K1 A ++ (flat d x ++ ⟨k, u⟩ :: flat d y) ++ postF d K2 B = (preF d K1 A ++ flat d x) ++ ⟨k, u⟩ :: (flat d y ++ postF d K2 B) := by simp
  rw [e2] at hu ⊢
  obtain ⟨m1, m2, _, _⟩ := up_mid hu
  have h4 : delL (g :: Z) g.key = Z := by
    have := del_hit (X := []) (Y := Z) (k := g.key) (by intro z hz; cases hz) h3.2.1 g.val
    exact this
  rw [del_hit m1 m2 u, preF_snoc g x K1 A hA, hy, h4]
  simp
theorem del_mid2 (hA : K1.length = A.length) (hu : Up (flat (d + 1) (K1 ++ ⟨k, u⟩ :: K2, A ++ x :: y :: B))) (hc : flat d cm = flat d x ++ ⟨k, u⟩ :: flat d y) :
    Up (flat d cm) ∧ hasL (flat d cm) k = true ∧ delL (flat (d + 1) (K1 ++ ⟨k, u⟩ :: K2, A ++ x :: y :: B)) k = preF d K1 A ++ delL (flat d cm) k ++ postF d K2 B := by
  have e1 := flat_2 K1 K2 ⟨k, u⟩ A B x y hA
  rw [e1] at hu ⊢
  have h1 := up_app (up_app hu).1
  have h2 := up_mid h1.2
  refine ⟨by rw [hc]; exact h1.2, by rw [hc]; exact has_hit u, ?_⟩
  have e2 : preF d K1 A ++ (flat d x ++ ⟨k, u⟩ :: flat d y) ++ postF d K2 B = (preF d K1 A ++ flat d x) ++ ⟨k, u⟩ :: (flat d y ++ postF d K2 B) := by simp
  rw [e2] at hu ⊢
  obtain ⟨m1, m2, _, _⟩ := up_mid hu
  rw [del_hit m1 m2 u, hc, del_hit h2.1 h2.2.1 u]
  simp
end
attribute [local irreducible] J JL QOp JOp seqQ blockQ loopQ retQ slc cel hex star pur stars Does RV Ent pAt scopeQ
attribute [local irreducible] nodeA nodeX treeA
theorem edgeT_ok (E : World) (d0 p0 m0 : Nat) (t0 : T d0) (hw0 : wf m0 d0 t0) (hm0 : 1 ≤ m0) : Does Tryz.prog E 119 [.pointer (some ⟨p0, 0, none⟩), .bool true] [nodeA d0 p0 t0]
    fun v L => ∃ (Z : List Kv) (g : Kv), flat d0 t0 = Z ++ [g] ∧ v = .agg (kvV g).toArray ∧ L = [nodeA d0 p0 t0] := by
  refine Does.of Tryz.func119 rfl Tryz.ntmps119 rfl rfl fun F => ?_
  refine J.norm ?_
  refine J_seq ?_
  refine J_region ?_
  refine L_o rfl rfl rfl (O_alloc fun b4 => ?_)
  refine JL_nil ?_
  refine seqQ_normal ?_
  refine J_seq ?_
  refine J_block ?_
  refine J_loop (fun i : It => wf i.m i.d i.t ∧ 1 ≤ i.m ∧ (∃ Z, flat d0 t0 = Z ++ flat i.d i.t) ∧ Ent [nodeA i.d i.p i.t, i.G] [nodeA d0 p0 t0, F])
    (fun i => [(0, .pointer (some ⟨i.p, 0, none⟩)), (1, .bool true), (4, .pointer (some ⟨b4, 0, none⟩))]) (fun i => [nodeA i.d i.p i.t, cel b4 (kvV ⟨[], []⟩) 77, i.G]) (fun i => i.d) ⟨d0, p0, m0, t0, F⟩ ⟨hw0, hm0, ⟨[], by simp⟩, Ent.refl _⟩ ⟨rfl, rfl, rfl, trivial⟩ (Ent.re [1, 0, 2] rfl) ?_
  rintro ⟨d, p, m, t, G⟩ ⟨hw, hm, ⟨Z, hZ⟩, hcl⟩
  dsimp only at hw hm hZ hcl ⊢
  have hk7 := wf_ks hw
  cases d with
  | zero =>
    refine J.leaf fun S R => ?_
    have ef : flat 0 t = tks 0 t := rfl
    rw [ef] at hZ
    generalize hks : tks 0 t = K at *
    obtain ⟨Ki, g, rfl⟩ := snoc_of (l := K) (by omega)
    have hgl : Ki.length < (Ki ++ [g]).length := by simp
    have hgg : (Ki ++ [g])[Ki.length] = g := get_mid rfl hgl
    have hsb : ((Ki ++ [g]).length : Int) - 1 = (Ki.length : Int) := by simp
    simp only [List.length_append, List.length_singleton] at hk7
    refine J_seq ?_
    refine J_seq ?_
    refine J_region ?_
    refine L_q (Q_move rfl) rfl rfl rfl ?_
    refine L_o rfl rfl rfl (O_call [0,2] [1,3,4] (leaf_ok E p S R []) rfl rfl ?_)
    rintro _ _ ⟨rfl, rfl⟩
    refine JL.norm ?_
    refine L_q ((Q_not rfl).as (v' := .bool false) rfl) rfl rfl rfl ?_
    refine JL_nil ?_
    refine seqQ_normal ?_
    refine J_condF rfl ?_
    refine J_exit ?_
    refine seqQ_exit ?_
    refine loopQ_exit ?_
    refine blockQ_hit ?_
    refine seqQ_normal ?_
    refine J_seq ?_
    refine J_seq ?_
    refine J_region ?_
    refine L_q (Q_move rfl) rfl rfl rfl ?_
    refine JL_nil ?_
    refine seqQ_normal ?_
    refine J_condT rfl ?_
    refine J_seq ?_
    refine J_drawH [0,2] [0, 1, 2, 3, 4, 5, 6, 7, 8, 9, 10, 11] (.quiet 0 (.quiet 1 (.quiet 2 (.quiet 3 (.quiet 4 (.quiet 5 (.quiet 6 (.quiet 7 (.quiet 8 (.quiet 9 (.quiet 10 (.quiet 11 (.loud 12 .done))))))))))))) Tryz.mixed (by kernel_rfl) (by kernel_rfl) (by repeat (first | exact retQ_noP | refine seqQ_noP ?_ | refine blockQ_noP ?_ | refine loopQ_noP ?_ | refine scopeQ_noP ?_ | (intro _ _ _ h; cases h.1))) ?_
    refine S_q (Ent.re [0,2] rfl) rfl (Q_move rfl) rfl rfl rfl ?_
    refine S_q (Ent.re [0,2] rfl) rfl (Q_nilCheck rfl) rfl rfl rfl ?_
    refine S_q (Ent.re [0,2] rfl) rfl (Q_fa0 rfl) rfl rfl rfl ?_
    refine S_q (Ent.re [0,2] rfl) rfl (Q_ld 0 rfl rfl rfl rfl) rfl rfl rfl ?_
    refine S_q (Ent.re [0,2] rfl) rfl (Q_move rfl) rfl rfl rfl ?_
    refine S_q (Ent.re [0,2] rfl) rfl (Q_nilCheck rfl) rfl rfl rfl ?_
    refine S_q (Ent.re [0,2] rfl) rfl (Q_fa0 rfl) rfl rfl rfl ?_
    refine S_q (Ent.re [0,2] rfl) rfl (Q_ld 0 rfl rfl rfl rfl) rfl rfl rfl ?_
    refine S_q (Ent.re [0,2] rfl) rfl (Q_lenAt 1 rfl rfl) rfl rfl rfl ?_
    refine S_q (Ent.re [0,2] rfl) rfl (Q_sub (r := (Ki.length : Int)) rfl rfl (by rw [hsb]; exact IntWalk.i64_in _ (by omega))) rfl rfl rfl ?_
    refine S_q (Ent.re [0,2] rfl) rfl (Q_ixAt 1 Ki.length rfl rfl rfl rfl hgl rfl) rfl rfl rfl ?_
    refine S_q (Ent.re [0,2] rfl) rfl (Q_ldEAAt 1 Ki.length 0 (vs := kvV g) rfl rfl rfl rfl hgl (by decide) (by rw [hgg]; rfl)) rfl rfl rfl ?_
    refine S_s rfl rfl rfl (O_stW 3 rfl rfl rfl rfl ⟨[], free_no (by kernel_rfl), ?_⟩)
    refine JS.norm ?_
    refine S_nil ?_
    refine seqQ_normal ?_
    refine J_ret ?_
    refine seqQ_ret ?_
    refine retQ_ret _ [nodeA d0 p0 t0] (.cons (RV_cell 3 rfl rfl rfl rfl) .nil) ⟨Z ++ Ki, g, by rw [hZ]; simp, rfl, rfl⟩ ((Ent.re [0, 2, 1, 4] rfl).trans ?_)
    rw [← hks]
    exact Ent.leafA.trans hcl
  | succ d =>
    obtain ⟨K, C⟩ := t
    refine J.inner fun S R es hes => ?_
    obtain ⟨h1, h7, hC, hwc⟩ := hw
    dsimp only at hes h1 h7 hC hwc ⊢
    subst hes
    rw [List.length_map] at hC
    have hlf := leaf_ok E p S R (pL es)
    rw [show decide (((pL es).length : Int) = 0) = false from decide_eq_false (by rw [pL_len]; omega)] at hlf
    obtain ⟨A, e, rfl⟩ := snoc_of (l := es) (by omega)
    have hAK : K.length = A.length := by simp at hC; omega
    have hPl : A.length < (pL (A ++ e :: [])).length := by rw [pL_len]; simp
    have hPg : (pL (A ++ e :: []))[A.length] = some e.1 := mid_get _ A [] e hPl
    have hsb : ((pL (A ++ [e])).length : Int) - 1 = (A.length : Int) := by rw [pL_len]; simp
    have hfl : flat (d + 1) (K, (A ++ [e]).map (·.2)) = preF d K (A.map (·.2)) ++ flat d e.2 := by
      rw [List.map_append]; exact flat_last (by simpa using hAK)
    refine J_seq ?_
    refine J_seq ?_
    refine J_region ?_
    refine L_q (Q_move rfl) rfl rfl rfl ?_
    refine L_o rfl rfl rfl (O_call [0,2] [1,3,4,5] hlf rfl rfl ?_)
    rintro _ _ ⟨rfl, rfl⟩
    refine JL.norm ?_
    refine L_q ((Q_not rfl).as (v' := .bool true) rfl) rfl rfl rfl ?_
    refine JL_nil ?_
    refine seqQ_normal ?_
    refine J_condT rfl ?_
    refine J_skip ?_
    refine seqQ_normal ?_
    refine J_block ?_
    refine J_seq ?_
    refine J_region ?_
    refine L_q (Q_move rfl) rfl rfl rfl ?_
    refine JL_nil ?_
    refine seqQ_normal ?_
    refine J_condT rfl ?_
    refine J_drawH [0,1] [0, 1, 2, 3, 4, 5, 6, 7, 8, 9, 10, 11, 12] (.quiet 0 (.quiet 1 (.quiet 2 (.quiet 3 (.quiet 4 (.quiet 5 (.quiet 6 (.quiet 7 (.quiet 8 (.quiet 9 (.quiet 10 (.quiet 11 (.quiet 12 .done))))))))))))) Tryz.mixed (by kernel_rfl) (by kernel_rfl) (by repeat (first | exact retQ_noP | refine seqQ_noP ?_ | refine blockQ_noP ?_ | refine loopQ_noP ?_ | refine scopeQ_noP ?_ | (intro _ _ _ h; cases h.1))) ?_
    refine S_q (Ent.re [0,1] rfl) rfl (Q_move rfl) rfl rfl rfl ?_
    refine S_q (Ent.re [0,1] rfl) rfl (Q_nilCheck rfl) rfl rfl rfl ?_
    refine S_q (Ent.re [0,1] rfl) rfl (Q_fa0 rfl) rfl rfl rfl ?_
    refine S_q (Ent.re [0,1] rfl) rfl (Q_ld 0 rfl rfl rfl rfl) rfl rfl rfl ?_
    refine S_q (Ent.re [0,1] rfl) rfl (Q_move rfl) rfl rfl rfl ?_
    refine S_q (Ent.re [0,1] rfl) rfl (Q_nilCheck rfl) rfl rfl rfl ?_
    refine S_q (Ent.re [0,1] rfl) rfl (Q_fa0 rfl) rfl rfl rfl ?_
    refine S_q (Ent.re [0,1] rfl) rfl (Q_ld 0 rfl rfl rfl rfl) rfl rfl rfl ?_
    refine S_q (Ent.re [0,1] rfl) rfl (Q_lenAt 1 rfl rfl) rfl rfl rfl ?_
    refine S_q (Ent.re [0,1] rfl) rfl (Q_sub (r := (A.length : Int)) rfl rfl (by rw [hsb]; exact IntWalk.i64_in _ (by omega))) rfl rfl rfl ?_
    refine S_q (Ent.re [0,1] rfl) rfl (Q_ixAt 1 A.length rfl rfl rfl rfl hPl rfl) rfl rfl rfl ?_
    refine S_q (Ent.re [0,1] rfl) rfl (Q_ldEAt 1 A.length 0 (v := .pointer (some ⟨e.1, 0, none⟩)) rfl rfl rfl rfl hPl (by decide) (by rw [hPg]; rfl)) rfl rfl rfl ?_
    refine S_q (Ent.re [0,1] rfl) rfl (Q_assign rfl) rfl rfl rfl ?_
    refine S_nil ?_
    refine blockQ_normal ?_
    refine loopQ_normal ⟨d, e.1, 3, e.2, stars (parL p S R K (pL A ++ some e.1 :: pL []) (A ++ []) G)⟩ ⟨hwc e.2 (by simp), (by show 1 ≤ 3; decide), ⟨Z ++ preF d K (A.map (·.2)), by rw [hZ, hfl]; simp⟩, Ent.up.trans hcl⟩ (Nat.lt_succ_self d) ⟨rfl, rfl, rfl, trivial⟩ ((Ent.re [0, 2, 1, 3, 4, 5] rfl).trans Ent.down)
theorem edgeF_ok (E : World) (d0 p0 m0 : Nat) (t0 : T d0) (hw0 : wf m0 d0 t0) (hm0 : 1 ≤ m0) : Does Tryz.prog E 119 [.pointer (some ⟨p0, 0, none⟩), .bool false] [nodeA d0 p0 t0]
    fun v L => ∃ (Z : List Kv) (g : Kv), flat d0 t0 = g :: Z ∧ v = .agg (kvV g).toArray ∧ L = [nodeA d0 p0 t0] := by
  refine Does.of Tryz.func119 rfl Tryz.ntmps119 rfl rfl fun F => ?_
  refine J.norm ?_
  refine J_seq ?_
  refine J_region ?_
  refine L_o rfl rfl rfl (O_alloc fun b4 => ?_)
  refine JL_nil ?_
  refine seqQ_normal ?_
  refine J_seq ?_
  refine J_block ?_
  refine J_loop (fun i : It => wf i.m i.d i.t ∧ 1 ≤ i.m ∧ (∃ Z, flat d0 t0 = flat i.d i.t ++ Z) ∧ Ent [nodeA i.d i.p i.t, i.G] [nodeA d0 p0 t0, F])
    (fun i => [(0, .pointer (some ⟨i.p, 0, none⟩)), (1, .bool false), (4, .pointer (some ⟨b4, 0, none⟩))]) (fun i => [nodeA i.d i.p i.t, cel b4 (kvV ⟨[], []⟩) 77, i.G]) (fun i => i.d) ⟨d0, p0, m0, t0, F⟩ ⟨hw0, hm0, ⟨[], by simp⟩, Ent.refl _⟩ ⟨rfl, rfl, rfl, trivial⟩ (Ent.re [1, 0, 2] rfl) ?_
  rintro ⟨d, p, m, t, G⟩ ⟨hw, hm, ⟨Z, hZ⟩, hcl⟩
  dsimp only at hw hm hZ hcl ⊢
  have hk7 := wf_ks hw
  cases d with
  | zero =>
    refine J.leaf fun S R => ?_
    have ef : flat 0 t = tks 0 t := rfl
    rw [ef] at hZ
    generalize hks : tks 0 t = K at *
    obtain ⟨g, Ki, rfl⟩ := cons_of (l := K) (by omega)
    have hgl : 0 < (g :: Ki).length := Nat.succ_pos _
    refine J_seq ?_
    refine J_seq ?_
    refine J_region ?_
    refine L_q (Q_move rfl) rfl rfl rfl ?_
    refine L_o rfl rfl rfl (O_call [0,2] [1,3,4] (leaf_ok E p S R []) rfl rfl ?_)
    rintro _ _ ⟨rfl, rfl⟩
    refine JL.norm ?_
    refine L_q ((Q_not rfl).as (v' := .bool false) rfl) rfl rfl rfl ?_
    refine JL_nil ?_
    refine seqQ_normal ?_
    refine J_condF rfl ?_
    refine J_exit ?_
    refine seqQ_exit ?_
    refine loopQ_exit ?_
    refine blockQ_hit ?_
    refine seqQ_normal ?_
    refine J_seq ?_
    refine J_seq ?_
    refine J_region ?_
    refine L_q (Q_move rfl) rfl rfl rfl ?_
    refine JL_nil ?_
    refine seqQ_normal ?_
    refine J_condF rfl ?_
    refine J_skip ?_
    refine seqQ_normal ?_
    refine J_seq ?_
    refine J_region ?_
    refine L_q (Q_move rfl) rfl rfl rfl ?_
    refine L_q (Q_nilCheck rfl) rfl rfl rfl ?_
    refine L_q (Q_fa0 rfl) rfl rfl rfl ?_
    refine L_q (Q_ld 0 rfl rfl rfl rfl) rfl rfl rfl ?_
    refine L_q (Q_ixAt 2 0 rfl rfl rfl rfl hgl rfl) rfl rfl rfl ?_
    refine L_q (Q_ldEAAt 2 0 0 (vs := kvV g) rfl rfl rfl rfl hgl (by decide) rfl) rfl rfl rfl ?_
    refine L_s rfl rfl (O_stW 3 rfl rfl rfl rfl ?_)
    refine JL.norm ?_
    refine JL_nil ?_
    refine seqQ_normal ?_
    refine J_ret ?_
    refine retQ_ret _ [nodeA d0 p0 t0] (.cons (RV_cell 3 rfl rfl rfl rfl) .nil) ⟨Ki ++ Z, g, by rw [hZ]; simp, rfl, rfl⟩ ((Ent.re [0, 2, 1, 4] rfl).trans ?_)
    rw [← hks]
    exact Ent.leafA.trans hcl
  | succ d =>
    obtain ⟨K, C⟩ := t
    refine J.inner fun S R es hes => ?_
    obtain ⟨h1, h7, hC, hwc⟩ := hw
    dsimp only at hes h1 h7 hC hwc ⊢
    subst hes
    rw [List.length_map] at hC
    have hlf := leaf_ok E p S R (pL es)
    rw [show decide (((pL es).length : Int) = 0) = false from decide_eq_false (by rw [pL_len]; omega)] at hlf
    obtain ⟨e, B, rfl⟩ := cons_of (l := es) (by omega)
    have hPl : 0 < (pL (e :: B)).length := Nat.succ_pos _
    have hfl : flat (d + 1) (K, (e :: B).map (·.2)) = flat d e.2 ++ postF d K (B.map (·.2)) := flat_first
    refine J_seq ?_
    refine J_seq ?_
    refine J_region ?_
    refine L_q (Q_move rfl) rfl rfl rfl ?_
    refine L_o rfl rfl rfl (O_call [0,2] [1,3,4,5] hlf rfl rfl ?_)
    rintro _ _ ⟨rfl, rfl⟩
    refine JL.norm ?_
    refine L_q ((Q_not rfl).as (v' := .bool true) rfl) rfl rfl rfl ?_
    refine JL_nil ?_
    refine seqQ_normal ?_
    refine J_condT rfl ?_
    refine J_skip ?_
    refine seqQ_normal ?_
    refine J_block ?_
    refine J_seq ?_
    refine J_region ?_
    refine L_q (Q_move rfl) rfl rfl rfl ?_
    refine JL_nil ?_
    refine seqQ_normal ?_
    refine J_condF rfl ?_
    refine J_region ?_
    refine L_q (Q_move rfl) rfl rfl rfl ?_
    refine L_q (Q_nilCheck rfl) rfl rfl rfl ?_
    refine L_q (Q_fa0 rfl) rfl rfl rfl ?_
    refine L_q (Q_ld 0 rfl rfl rfl rfl) rfl rfl rfl ?_
    refine L_q (Q_ixAt 1 0 rfl rfl rfl rfl hPl rfl) rfl rfl rfl ?_
    refine L_q (Q_ldEAt 1 0 0 (v := .pointer (some ⟨e.1, 0, none⟩)) rfl rfl rfl rfl hPl (by decide) rfl) rfl rfl rfl ?_
    refine L_q (Q_assign rfl) rfl rfl rfl ?_
    refine JL_nil ?_
    refine blockQ_normal ?_
    refine loopQ_normal ⟨d, e.1, 3, e.2, stars (parL p S R K (pL [] ++ some e.1 :: pL B) ([] ++ B) G)⟩ ⟨hwc e.2 (by simp), (by show 1 ≤ 3; decide), ⟨postF d K (B.map (·.2)) ++ Z, by rw [hZ, hfl]; simp⟩, (Ent.up (A := [])).trans hcl⟩ (Nat.lt_succ_self d) ⟨rfl, rfl, rfl, trivial⟩ ((Ent.re [0, 2, 1, 3, 4, 5] rfl).trans (Ent.down (A := [])))
end Go.Proofs.Bt
