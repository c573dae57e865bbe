/- A slice's capacity; a copy; an append of zeros; what an insertion asks of two slices. -/
import Derived.Lib.Overlaps
import Derived.Laws.Externs
import Derived.Test.YtihlnjafeocbnaaSl17
set_option autoImplicit false
namespace Go.SL
section
variable {α : Type} {τ : Ty α} {P : Program} {E : World} {n : Nat} {ρ : Env} {L : List HProp} {dst : Option Tmp} {ty : TypeId} {pos : String} {after : Array Edge} {g : Option (Nat × Bool)}
theorem Q_capV {t e : Nat} {x : Operand} {S : SV} [u : TyU P t (.slice e)] (hx : ρ.ev x = some S.v) : QOp P E n ⟨dst, .call ⟨.builtin .cap, #[x], #[t]⟩, ty, pos, after, g⟩ ρ L (.int .i64 (S.c : Int)) := fun a w ha hs =>
  run_builtin (args := [x]) (vs := [S.v]) a w ha (by simp [Env.evs, hx]) (fun cs => by simp [builtin, Builtin.cap_, run_underlying u.h, goInt])
theorem zeros_flat {z : Value} {sz : Nat} (m : Nat) (a0 : α) (hz : z.cells.toList = τ.enc a0) (hsz : sz = τ.sz) : (Builtin.zeroCells z.cells m).toList = τ.flat (List.replicate m a0) := by
  have hzs : z.cells.size = sz := by rw [← Array.length_toList, hz, τ.len, hsz]
  rw [τ.flat_replicate, ← hz]
  apply List.ext_getElem?
  intro q
  have hp := τ.pos
  have e0 : z.cells.toList.length = sz := by simp [hzs]
  by_cases hq : q < m * sz
  · have hqs : q % sz < sz := Nat.mod_lt _ (by omega)
    have e1 : (Builtin.zeroCells z.cells m).toList[q]? = some (z.cells[q % sz]!) := by
      simp [Builtin.zeroCells, hq, hzs]
    have : ∀ (m : Nat) (ls : List Value) (q : Nat), 0 < ls.length → q < m * ls.length → (List.replicate m ls).flatten[q]? = ls[q % ls.length]? := by
      intro m
      induction m with
      | zero => intro ls q _ h; simp at h
      | succ m ih =>
        intro ls q hp h
        rw [List.replicate_succ, List.flatten_cons]
        by_cases hlt : q < ls.length
        · rw [List.getElem?_append_left hlt, Nat.mod_eq_of_lt hlt]
        · rw [List.getElem?_append_right (by omega), ih _ _ hp (by rw [Nat.add_mul] at h; omega)]
          congr 1
          rw [← Nat.mod_eq_sub_mod (by omega)]
    rw [e1, this m _ q (by omega) (by rw [e0]; exact hq), e0]
    have : q % sz < z.cells.size := by omega
    simp [this]
  · rw [List.getElem?_eq_none (by simp [Builtin.zeroCells, hzs]; omega), List.getElem?_eq_none]
    simp [e0]
    first | omega | (rw [Nat.mul_comm]; omega)
/-- append(s[:k], make(..)...), where there is no room: a new row; s is as it was. -/
theorem O_appZ (i k m : Nat) (a0 : α) {K : Value → List HProp → Prop} {t t' sz by_ : Nat} {z : Value} {x y : Operand} {S : SV} {l : List α} {kk : IntKind} {j : Int} [u : TyU P t (.slice τ.e)] [u' : TyU P t' (.int .i64)] [v : TyI P τ.e sz z by_] (hL : L[i]? = some (slc τ true S l))
    (hx : ρ.ev x = some (S.sub τ.sz 0 k).v) (hy : ρ.ev y = some (.int kk j)) (hj : j = (m : Int)) (hsz : sz = τ.sz) (hz : z.cells.toList = τ.enc a0) (hk : k ≤ l.length) (hroom : S.c < k + m) (hb : (k + m) * by_ ≤ 140737488355328) (hb1 : 1 ≤ by_)
    (hK : ∀ S', K (SV.v S') (slc τ true S' (l.take k ++ List.replicate m a0) :: L)) : JOp P E n ⟨dst, .call ⟨.builtin .append, #[x, y], #[t, t']⟩, ty, pos, after, g⟩ K ρ L := fun a w ha hs next Q hn => by
  obtain ⟨r, hr, hrs, hrz, hrb⟩ := v.get
  subst hj
  have hneed : k + m ≤ 140737488355328 := Nat.le_trans (Nat.le_mul_of_pos_right _ hb1) hb
  have hzs : z.cells.size = sz := by rw [← Array.length_toList, hz, τ.len, hsz]
  have hR := (hs.rd i hL).sub 0 k (Nat.zero_le _) hk
  rw [List.drop_zero] at hR
  have hlk : (l.take k).length = k := by simp; omega
  have hfit : Builtin.nextslicecap (k + m) S.c * by_ ≤ 281474976710656 := by
    have : Builtin.nextslicecap (k + m) S.c ≤ 2 * (k + m) := by
      unfold Builtin.nextslicecap
      split
      · omega
      · split
        · omega
        · rename_i h1 h2
          have grow : ∀ (rounds c N : Nat), c ≤ 2 * N → 256 ≤ N → (∀ c', c' < N → c' + (c' + 768) / 4 ≤ 2 * N) → Builtin.growBy N rounds c ≤ 2 * N := by
            intro rounds
            induction rounds with
            | zero => intro c N h _ _; exact h
            | succ r ih =>
              intro c N h h2 h3
              unfold Builtin.growBy
              split
              · exact h
              · exact ih _ _ (h3 c (by omega)) h2 h3
          exact grow 4 S.c (k + m) (by omega) (by omega) (by intro c' hc'; omega)
    calc Builtin.nextslicecap (k + m) S.c * by_ ≤ 2 * (k + m) * by_ := Nat.mul_le_mul_right _ this
      _ = 2 * ((k + m) * by_) := by rw [Nat.mul_assoc]
      _ ≤ 281474976710656 := by omega
  have hSn : (S.sub τ.sz 0 k).n = k := by simp [SV.sub]
  have hSc : (S.sub τ.sz 0 k).c = S.c := by simp [SV.sub]
  generalize hU : S.sub τ.sz 0 k = U at *
  obtain ⟨ua, un, uc⟩ := U
  simp only at hSn hSc
  subst hSn hSc
  have hfo : ∀ w', w'.heap = w.heap → (Builtin.firstCells sz un (.slice ua un S.c)).run P w' = .ok (τ.flat (l.take un)).toArray w' := fun w' hw' => by
    rcases hR.cells with h0 | ⟨b, hb, hc⟩
    · have hl0 : un = 0 := by
        have := τ.flat_length (l.take un)
        rw [h0, hlk] at this
        have hp := τ.pos
        rcases Nat.eq_zero_or_pos un with h | h
        · omega
        · have := Nat.mul_le_mul_right τ.sz h; simp only [List.length_nil] at *; omega
      rw [h0, hl0]
      cases ua <;> simp [Builtin.firstCells, loadCells, loadCellsFrom]
    · simp only at hb
      subst hb
      simp only [Builtin.firstCells]
      exact run_cells b (τ.flat (l.take un)) (fun j u hu => by have := hc j u hu; simpa [World.cell?, hw'] using this) _ (by rw [τ.flat_length, hsz, hlk])
  have hfo := hfo w.drew rfl
  have hn' : ¬ (un + m ≤ S.c) := by omega
  have h63' : ¬ (9223372036854775807 < ((un : Int) + (m : Int))) := by omega
  have h48' : ¬ (281474976710656 < Builtin.nextslicecap (un + m) S.c * by_) := by omega
  have hmb : (m : Int) * (r.bytes : Int) ≤ 281474976710656 := by
    rw [hrb, ← Int.natCast_mul]
    have : m * by_ ≤ (un + m) * by_ := Nat.mul_le_mul_right _ (by omega)
    omega
  have hmb' : ¬ (281474976710656 < (m : Int) * (r.bytes : Int)) := by omega
  have hm0 : 0 < m := by have := (hs.rd i hL).2.1; have := (hs.rd i hL).1; omega
  have hms : ¬ (m * sz = 0) := by
    have hp := τ.pos
    have := Nat.mul_le_mul hm0 (show 1 ≤ sz by omega)
    omega
  have hwr : IntKind.i64.wrap (m : Int) = (m : Int) := by rw [IntKind.wrap_i64]; omega
  let cap := grownCap w (un + m) S.c τ.e
  let C : List Value := τ.flat (l.take un) ++ τ.flat (List.replicate m a0) ++ (Builtin.zeroCells z.cells (cap - (un + m))).toList
  have hcapge : un + m ≤ cap := grownCap_ge w _ _ _
  have hcaple : cap ≤ 9223372036854775807 := by
    have := grownCap_le_maxLen w (un + m) S.c τ.e (by unfold maxLen; omega)
    unfold maxLen at this; exact this
  have hrun : (Builtin.append_ #[t, t'] ty #[.slice ua un S.c, .int kk (m : Int)]).run P w = .ok (SV.v ⟨some ⟨w.heap.size, 0, none⟩, un + m, cap⟩) (w.drew.alloc (.cells C.toArray τ.e)) := by
    have e1 : C.toArray = (τ.flat (l.take un)).toArray ++ (Builtin.zeroCells z.cells m) ++ Builtin.zeroCells z.cells (cap - (un + m)) := by
      simp [C, ← zeros_flat (τ := τ) m a0 hz hsz]
    rw [e1]
    have hfo' : (Builtin.firstCells r.size un (.slice ua un S.c)).run P w.drew = .ok (τ.flat (l.take un)).toArray w.drew := by rw [hrs]; exact hfo
    have hms' : ¬ (m * r.size = 0) := by rw [hrs]; exact hms
    have hm1 : ¬ (m = 0) := by omega
    have hr0 : ¬ (r.size = 0) := fun h => hms' (by rw [h]; simp)
    have hneg : ¬ ((m : Int) < 0) := by omega
    have hmb3 : ¬ (281474976710656 < (m : Int) * (by_ : Int)) := by rw [← hrb]; exact hmb'
    simp only [Builtin.append_]
    simp [run_underlying u.h, run_underlying u'.h, sizeOf, typeInfo, hr, zeroValue, hrz, asInt, asIntOf, hwr, hmb', hmb3, hn', h63', hrb, h48', Question.forced, hfo', hm1, hr0, hms', hneg, newRow, grownCap, cap, SV.v]
    try (congr 2; rw [← Array.append_assoc]; simp)
  have hnw := newed_drew_alloc w (.cells C.toArray τ.e)
  have hfl := τ.flat_length (l.take un ++ List.replicate m a0)
  rw [τ.flat_append] at hfl
  have hsat := hs.new_row (τ := τ) (l := l.take un ++ List.replicate m a0) (c := cap) hnw (.inl (Nat.le_refl _)) (by simp; omega) (by
      have hzl : (Builtin.zeroCells z.cells (cap - (un + m))).toList.length = (cap - (un + m)) * τ.sz := by rw [Array.length_toList, size_zeroCells, hzs, hsz]
      have hCl : C.length = (τ.flat (l.take un)).length + (τ.flat (List.replicate m a0)).length + (cap - (un + m)) * τ.sz := by
        show (τ.flat (l.take un) ++ τ.flat (List.replicate m a0) ++ (Builtin.zeroCells z.cells (cap - (un + m))).toList).length = _
        rw [List.length_append, List.length_append, hzl]
      rw [hCl, Nat.sub_mul]
      have := Nat.mul_le_mul_right τ.sz hcapge
      rw [List.length_append, List.length_append, hlk, List.length_replicate] at hfl
      omega) (by
      simp only [C]
      rw [List.take_append, show (l.take un ++ List.replicate m a0).length * τ.sz - (τ.flat (l.take un) ++ τ.flat (List.replicate m a0)).length = 0 by omega, List.take_zero, List.append_nil, List.take_of_length_le (by omega), τ.flat_append]) hcaple
  have hlen2 : (l.take un ++ List.replicate m a0).length = un + m := by simp; omega
  rw [hlen2] at hsat
  unfold Oper.wp
  simp only [execOp, resolve]
  have e1 : (Array.map a.eval #[x, y]) = #[.slice ua un S.c, .int kk (m : Int)] := by simp [ha.ev hx, ha.ev hy]
  simp only [run_bind_pure, invoke, e1, builtin]
  simp only [Sem.run_bind, hrun, Result.andThen_ok, Sem.run_pure]
  exact hn _ _ _ (hK _) hsat
/-- copy(d[lo:hi], s) -/
theorem O_copy (i lo hi : Nat) {K : Value → List HProp → Prop} {t t' sz by_ : Nat} {z : Value} {x y : Operand} {D T : SV} {l m : List α} [u : TyU P t (.slice τ.e)] [v : TyI P τ.e sz z by_] (hL : L[i]? = some (slc τ true D l))
    (hT : ∀ w, Sat E w L → Rd τ w ⟨T.a, m.length, T.c⟩ m) (hx : ρ.ev x = some (D.sub τ.sz lo hi).v) (hy : ρ.ev y = some T.v) (hsz : sz = τ.sz) (hmin : min T.n (hi - lo) = m.length) (hlo : lo ≤ l.length) (hroom : lo + m.length ≤ D.c)
    (hK : K (.int .i64 (m.length : Int)) (L.set i (slc τ true ⟨D.a, max D.n (lo + m.length), D.c⟩ (l.take lo ++ m ++ l.drop (lo + m.length))))) : JOp P E n ⟨dst, .call ⟨.builtin .copy, #[x, y], #[t, t']⟩, ty, pos, after, g⟩ K ρ L := fun a w ha hs next Q hn => by
  obtain ⟨r, hr, hrs, hrz, hrb⟩ := v.get
  have hR := hT w hs
  have hfc : (Builtin.firstCells sz m.length T.v).run P w = .ok (τ.flat m).toArray w := by
    rcases hR.cells with h0 | ⟨b, hb, hc⟩
    · have hl0 : m.length = 0 := by
        have := τ.flat_length m
        rw [h0] at this
        have hp := τ.pos
        rcases Nat.eq_zero_or_pos m.length with h | h
        · exact h
        · have := Nat.mul_le_mul_right τ.sz h; simp only [List.length_nil] at *; omega
      rw [h0, hl0]
      cases hS : T.a <;> simp [SV.v, hS, Builtin.firstCells, loadCells, loadCellsFrom]
    · simp only at hb
      simp only [SV.v, hb, Builtin.firstCells]
      exact run_cells b (τ.flat m) (fun j u hu => hc j u hu) _ (by rw [τ.flat_length, hsz])
  have hlen : (Builtin.lenOf T.v).run P w = .ok T.n w := by simp [Builtin.lenOf]
  obtain ⟨p, ⟨hn', hcap, h⟩, hw⟩ := hs.at hL
  have hdn : (D.sub τ.sz lo hi).n = hi - lo := rfl
  have hmin' : Nat.min T.n (hi - lo) = m.length := hmin
  have key : ∃ w', (Builtin.copy_ #[t, t'] ty #[(D.sub τ.sz lo hi).v, T.v]).run P w = .ok (.int .i64 (m.length : Int)) w' ∧ Sat E w' (L.set i (slc τ true ⟨D.a, max D.n (lo + m.length), D.c⟩ (l.take lo ++ m ++ l.drop (lo + m.length)))) := by
    rcases h with ⟨hno, h0⟩ | ⟨_, _, hf0, _⟩ | ⟨b, o, hS, _, cs, fr, hp, hfr, hlen', hcs, hmx⟩
    · have hm0 : m.length = 0 := by omega
      have hm : m = [] := List.eq_nil_of_length_eq_zero hm0
      have hl : l = [] := List.eq_nil_of_length_eq_zero (by omega)
      subst hm hl
      refine ⟨w, ?_, ?_⟩
      · have hfc' := hfc
        simp only [List.length_nil] at hfc' hmin'
        have hna : (D.sub τ.sz lo hi).a = none := by simp [SV.sub, hno]
        simp only [Builtin.copy_, SV.v] at *
        rw [hdn, hna]
        simp [run_underlying u.h, sizeOf, typeInfo, hr, hrs, hlen, hmin', hfc', goInt]
      · have e : L.set i (slc τ true ⟨D.a, max D.n (lo + ([] : List α).length), D.c⟩ (([] : List α).take lo ++ [] ++ ([] : List α).drop (lo + ([] : List α).length))) = L := by
          have e2 : (⟨D.a, max D.n (lo + ([] : List α).length), D.c⟩ : SV) = D := by
            cases D; simp at hn' hroom h0 ⊢; omega
          rw [e2]
          refine List.ext_getElem? fun j => ?_
          rw [List.getElem?_set]
          by_cases e : i = j
          · subst e; rw [hL]; simp [(List.getElem?_eq_some_iff.1 hL).1]
          · simp [e]
        rw [e]; exact hs
    · cases hf0
    · have hb' := (hw b _ hp).2
      have hfl := τ.flat_length m
      have hmul : (lo + m.length) * τ.sz ≤ D.c * τ.sz := Nat.mul_le_mul_right _ hroom
      rw [Nat.add_mul] at hmul
      obtain ⟨w', hst, ht1⟩ := run_storeCells (P := P) b τ.e fr (τ.flat m) (o + lo * τ.sz) 0 cs w hb' hfr (by omega) (τ.flat_one m)
      refine ⟨w', ?_, ?_⟩
      · have hst' : ∃ A, (D.sub τ.sz lo hi).a = some A ∧ (storeCells A (τ.flat m)).run P w = .ok () w' := by
          by_cases e : D.c = lo
          · have hm : m = [] := List.eq_nil_of_length_eq_zero (by omega)
            subst hm
            refine ⟨⟨b, o, none⟩, by simp [SV.sub, e, hS], ?_⟩
            simpa [Ty.flat, storeCells] using hst
          · exact ⟨⟨b, o + lo * τ.sz, none⟩, by simp [SV.sub, e, hS, addr_add], hst⟩
        obtain ⟨A, hA, hst'⟩ := hst'
        simp only [Builtin.copy_, SV.v] at *
        rw [hdn, hA]
        simp [run_underlying u.h, sizeOf, typeInfo, hr, hrs, hlen, hmin', hfc, goInt, hst']
      · refine hs.turn_at hL (fun p' ⟨_, _, hp2⟩ _ => ?_) ht1
        have hp' : ∃ o', p' b = some o' := by
          rcases hp2 with ⟨hno, _⟩ | ⟨_, _, hf0, _⟩ | ⟨b2, o2, hS2, _, cs2, fr2, hb2, _⟩
          · rw [hno] at hS; cases hS
          · cases hf0
          · rw [hS2] at hS; simp only [Option.some.injEq, Addr.mk.injEq] at hS; obtain ⟨rfl, _⟩ := hS; exact ⟨_, hb2⟩
        have hCl : (cs.take (o + lo * τ.sz) ++ τ.flat m ++ cs.drop (o + lo * τ.sz + (τ.flat m).length)).length = cs.length := by simp; omega
        refine ⟨hp', by simp; omega, by simp; omega, .inr (.inr ⟨b, o, hS, rfl, cs.take (o + lo * τ.sz) ++ τ.flat m ++ cs.drop (o + lo * τ.sz + (τ.flat m).length), fr, by simp, by rw [hCl]; exact hfr, by rw [hCl]; exact hlen', ?_, hmx⟩)⟩
        have hA : (cs.take (o + lo * τ.sz)).length = o + lo * τ.sz := by simp; omega
        have hDl : D.n * τ.sz = l.length * τ.sz := by rw [hn']
        have hlo' : lo * τ.sz ≤ l.length * τ.sz := Nat.mul_le_mul_right _ hlo
        rw [List.append_assoc, List.drop_append_of_le_length (by omega), List.drop_take, show o + lo * τ.sz - o = lo * τ.sz by omega]
        have h1 : (cs.drop o).take (lo * τ.sz) = τ.flat (l.take lo) := by
          have := congrArg (List.take (lo * τ.sz)) hcs
          rw [List.take_take, Nat.min_eq_left (by omega), τ.flat_take] at this
          exact this
        have h2 : (cs.drop (o + lo * τ.sz + (τ.flat m).length)).take ((D.n - (lo + m.length)) * τ.sz) = τ.flat (l.drop (lo + m.length)) := by
          have := congrArg (List.drop ((lo + m.length) * τ.sz)) hcs
          rw [List.drop_take, List.drop_drop, τ.flat_drop] at this
          rw [Nat.sub_mul, hfl, ← this]
          congr 2
          rw [Nat.add_mul]; omega
        rw [h1, τ.flat_append, τ.flat_append, List.append_assoc]
        generalize cs.drop (o + lo * τ.sz + (τ.flat m).length) = R at h2 ⊢
        have hfl1 := τ.flat_length (l.take lo)
        rw [List.length_take, Nat.min_eq_left hlo] at hfl1
        have hmx2 : max D.n (lo + m.length) * τ.sz = lo * τ.sz + (m.length * τ.sz + (D.n - (lo + m.length)) * τ.sz) := by
          rw [← Nat.add_mul, ← Nat.add_mul]; congr 1; omega
        rw [hmx2, ← hfl1, List.take_length_add_append, ← hfl, List.take_length_add_append, h2]
  obtain ⟨w', hr', hs'⟩ := key
  unfold Oper.wp
  simp only [execOp, resolve]
  have e1 : (Array.map a.eval #[x, y]) = #[(D.sub τ.sz lo hi).v, T.v] := by simp [ha.ev hx, ha.ev hy]
  simp only [run_bind_pure, invoke, e1, builtin]
  simp only [Sem.run_bind, hr', Result.andThen_ok, Sem.run_pure]
  exact hn _ _ w' hK hs'
/-- A slice in a block of its own, of plain memory. -/
def slcN {α : Type} (τ : Ty α) (S : SV) (l : List α) : HProp := fun _ h => ∃ b : Nat, S = ⟨some ⟨b, 0, none⟩, l.length, l.length⟩ ∧ l.length ≤ 9223372036854775807 ∧ h b = some (.cells (τ.flat l).toArray τ.e)
theorem slcN_slc {S : SV} {l : List α} {h : Frag} (hs : slcN τ S l E h) : slc τ true S l E h := by
  obtain ⟨b, rfl, hl, hb⟩ := hs
  have hfl := τ.flat_length l
  exact ⟨rfl, Nat.le_refl _, .inr (.inr ⟨b, 0, rfl, rfl, τ.flat l, (0, 0), hb, .inl (Nat.le_refl _), by simp only; omega, by rw [List.drop_zero, List.take_of_length_le (by simp only; omega)], hl⟩)⟩
theorem Ent.slcN {S : SV} {l : List α} (i : Nat) (hi : L[i]? = some (SL.slcN τ S l)) : Ent L (L.set i (slc τ true S l)) := fun _ _ h => h.map_at hi fun _ hg => slcN_slc hg
theorem Sat.rdN {w : World} (h : Sat E w L) (i : Nat) {S : SV} {l : List α} (hi : L[i]? = some (SL.slcN τ S l)) : Rd τ w S l := by
  have := h.map_at hi (d := slc τ true S l) fun _ hg => slcN_slc hg
  exact this.rd i (by rw [List.getElem?_set_self (List.getElem?_eq_some_iff.1 hi).1])
theorem O_litN {K : Value → List HProp → Prop} {t sz by_ : Nat} {z : Value} {ps : List (Nat × Operand)} {m : Nat} {vs : List Value} (l : List α) [u : TyU P t (.slice τ.e)] [v : TyI P τ.e sz z by_] (hp : ((ps.map (·.2)).zipIdx.map fun (x, i) => (i, x)) = ps) (hx : ρ.evs (ps.map (·.2)) = some vs) (hm : m = vs.length) (hsz : sz = τ.sz) (hz : z.cells.size = sz)
    (hl : vs.map (fun v => v.cells.toList) = l.map τ.enc) (h24 : m * sz ≤ 16777216) (hm0 : 0 < m) (hK : ∀ S, K (SV.v S) (slcN τ S l :: L)) : JOp P E n ⟨dst, .buildSlice t m ps.toArray, ty, pos, after, g⟩ K ρ L := fun a w ha hs next Q hn => by
  rw [← hp]
  generalize ps.map (·.2) = xs at *
  obtain ⟨r, hr, hrs, hrz, hrb⟩ := v.get
  have hlen : vs.length = l.length := by have := congrArg List.length hl; simpa using this
  have hcells : ∀ u ∈ vs, u.cells.size = sz := fun u hu => by
    have h1 : u.cells.toList ∈ l.map τ.enc := by rw [← hl]; exact List.mem_map_of_mem hu
    obtain ⟨b, _, hb⟩ := List.mem_map.1 h1
    have := τ.len b
    rw [hb] at this
    rw [hsz]; simpa using this
  have hflat : (vs.flatMap fun v => v.cells.toList) = τ.flat l := by
    have h1 : (vs.map (fun v => v.cells.toList)).flatten = (l.map τ.enc).flatten := by rw [hl]
    simpa [List.flatMap, Ty.flat] using h1
  let C : List Value := (Array.range (m * sz)).toList.map (z.cells[· % z.cells.size]!)
  have hC : C.length = m * sz := by simp [C]
  have hfill := run_fill sz vs 0 C hcells (by rw [hC, hm]; omega)
  rw [hflat] at hfill
  simp only [Nat.zero_mul, List.take_zero, List.nil_append, Nat.zero_add] at hfill
  rw [List.drop_of_length_le (by rw [hC, hm]; omega), List.append_nil] at hfill
  have h0 : ¬ (m * sz = 0) := by
    have hp := τ.pos
    have := Nat.mul_le_mul hm0 (show 1 ≤ sz by omega)
    omega
  have hrun : (Instr.buildSlice t m ((xs.zipIdx.map fun (x, i) => (i, x)).toArray.map fun (i, x) => (i, a.eval x))).run P w = .ok (.slice (some ⟨w.heap.size, 0, none⟩) m m) (w.alloc (.cells (τ.flat l).toArray τ.e)) := by
    have e1 : ((xs.zipIdx.map fun (x, i) => (i, x)).toArray.map fun (i, x) => (i, a.eval x)) = ((vs.zipIdx 0).map fun (v, i) => (i, v)).toArray := by
      rw [← ha.evs hx]
      simp [List.zipIdx_map]
    rw [e1]
    simp only [Instr.buildSlice]
    have eC : ((Array.range (m * sz)).map (z.cells[· % z.cells.size]!)) = C.toArray := by
      apply Array.ext'; simp [C]
    simp [run_underlying u.h, sizeOf, typeInfo, zeroValue, hr, hrs, hrz, h0, show ¬ (16777216 < m * sz) by omega]
    rw [eC, hfill]
    simp [newRow]
  have hml : m = l.length := by omega
  have hsat : Sat E (w.alloc (.cells (τ.flat l).toArray τ.e)) (slcN τ ⟨some ⟨w.heap.size, 0, none⟩, m, m⟩ l :: L) := (hs.newed (newed_alloc w (.cells (τ.flat l).toArray τ.e))).weaken fun g hg => ⟨w.heap.size, by rw [hml], by
    have hp := τ.pos
    have := Nat.mul_le_mul_left m (show 1 ≤ sz by omega)
    omega, hg⟩
  unfold Oper.wp
  simp only [execOp]
  simp only [Sem.run_bind, hrun, Result.andThen_ok, Sem.run_pure]
  exact hn _ _ _ (hK ⟨some ⟨w.heap.size, 0, none⟩, m, m⟩) hsat
/-- slices.overlaps, of what lies in two blocks. -/
def OvFn (P : Program) (f t : Nat) : Prop := ∃ (fn : Func) (t' : Nat), P.funcs[f]? = some fn ∧ (fn.name == "runtime.NumGoroutine") = false ∧ fn.body.isNone = true ∧ Extern.findNext fn = none ∧ Extern.find fn = some (Extern.SlicesOverlaps.overlaps #[t, t] #[t'])
theorem O_overlaps {f : Nat} (i j lo hi : Nat) {K : Value → List HProp → Prop} {t sz by_ : Nat} {z : Value} {x y : Operand} {ts : Array TypeId} {S T : SV} {l m : List α} [u : TyU P t (.slice τ.e)] [v : TyI P τ.e sz z by_] (hf : OvFn P f t) (hij : i ≠ j) (hi' : L[i]? = some (slcN τ T m)) (hj : L[j]? = some (slc τ true S l))
    (hx : ρ.ev x = some T.v) (hy : ρ.ev y = some (S.sub τ.sz lo hi).v) (hsz : sz = τ.sz) (hm : 0 < m.length) (hc : 0 < S.c) (hK : K (.bool false) L) : JOp P E n ⟨dst, .call ⟨.value (.func f), #[x, y], ts⟩, ty, pos, after, g⟩ K ρ L := fun a w ha hs next Q hn => by
  obtain ⟨fn, t', h1, h2, h3, h4, h5⟩ := hf
  obtain ⟨r, hr, hrs, hrz, hrb⟩ := v.get
  obtain ⟨fr, f1, f2, f3⟩ := hs.own
  have hil : i < L.length := (List.getElem?_eq_some_iff.1 hi').1
  have hjl : j < L.length := (List.getElem?_eq_some_iff.1 hj).1
  obtain ⟨b, rfl, hml, hb⟩ := f1 i _ hi'
  obtain ⟨_, _, hS⟩ := f1 j _ hj
  rcases hS with ⟨_, h0⟩ | ⟨_, _, hf0, _⟩ | ⟨b2, o, hSa, _, cs, fz, hp, hfr, hlen', hcs, hmx⟩
  · omega
  · cases hf0
  have hne : b ≠ b2 := by
    intro e; subst e
    have := f3 i j hil hjl hij b
    rw [hb, hp] at this
    simp at this
  have hbw := (f2 i hil b _ hb).2
  have hb2w := (f2 j hjl b2 _ hp).2
  have hpos := τ.pos
  have hcl : cs.length ≠ 0 := by
    have := Nat.mul_le_mul hc (show 1 ≤ τ.sz by omega)
    omega
  obtain ⟨A, hA, hAb⟩ : ∃ A : Addr, (S.sub τ.sz lo hi).a = some A ∧ A.block = b2 := by
    by_cases e : S.c = lo
    · exact ⟨_, by simp [SV.sub, e, hSa]; rfl, rfl⟩
    · exact ⟨_, by simp [SV.sub, e, hSa]; rfl, by rw [addr_add]⟩
  have hz' : ∀ w, (Go.sizeOf τ.e).run P w = .ok sz w := fun w => by simp [sizeOf, typeInfo, hr, hrs]
  have hov := Lib.run_overlaps_apart (P := P) w t t' τ.e u.h sz hz' ⟨b, 0, none⟩ A m.length m.length (S.sub τ.sz lo hi).n (S.sub τ.sz lo hi).c (by simpa [hAb] using hne) τ.e τ.e (τ.flat m).length cs.length (by simp [World.shape?, hbw]) (by simp [World.shape?, hAb, hb2w]) hcl (by simp [World.frozen?, hbw]) (by simp [World.frozen?, hbw])
  unfold Oper.wp
  simp only [execOp, resolve]
  have e1 : (Array.map a.eval #[x, y]) = #[.slice (some ⟨b, 0, none⟩) m.length m.length, .slice (some A) (S.sub τ.sz lo hi).n (S.sub τ.sz lo hi).c] := by simp [ha.ev hx, ha.ev hy, SV.v, hA]
  have e2 : a.eval (.func f) = .func (.func f) #[] #[] := rfl
  simp only [e1, e2, Deferred.ofValue, run_bind_pure, invoke, Array.empty_append, Array.append_empty]
  rw [run_callFunc_extern h1 h2 h3 h4 h5, hov]
  simp only [Result.andThen_ok]
  exact hn _ _ w hK hs
theorem Sat.slcA {w : World} (h : Sat E w L) (i : Nat) {S : SV} {l : List α} (hi : L[i]? = some (slc τ true S l)) : 0 < S.c → ∃ g o, S.a = some ⟨g, o, none⟩ := fun hc => by
  obtain ⟨p, ⟨_, _, hp⟩, _⟩ := h.at hi
  rcases hp with ⟨_, h0⟩ | ⟨_, _, hf0, _⟩ | ⟨g, o, ha, _⟩
  · omega
  · cases hf0
  · exact ⟨g, o, ha⟩
theorem Sat.slcT {w : World} (h : Sat E w L) (i : Nat) {T : SV} {x : α} (hi : L[i]? = some (SL.slcN τ T [x])) : ∃ b, T = ⟨some ⟨b, 0, none⟩, 1, 1⟩ := by
  obtain ⟨p, ⟨b, hT, _⟩, _⟩ := h.at hi
  exact ⟨b, hT⟩
theorem Rd.dropN {w : World} {S : SV} {l : List α} {q : Nat} (h : Rd τ w S l) (k : Nat) (hk : k ≤ l.length) : Rd τ w ⟨(S.sub τ.sz k q).a, (l.drop k).length, (S.sub τ.sz k q).c⟩ (l.drop k) := by
  have h1 := h.sub k l.length hk (Nat.le_refl _)
  rw [List.take_length] at h1
  have e : (⟨(S.sub τ.sz k q).a, (l.drop k).length, (S.sub τ.sz k q).c⟩ : SV) = S.sub τ.sz k l.length := by simp [SV.sub]
  rw [e]; exact h1
end
end Go.SL
