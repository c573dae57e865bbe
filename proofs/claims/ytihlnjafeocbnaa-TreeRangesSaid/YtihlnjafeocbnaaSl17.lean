/- What is done in place: an append onto a beginning, a clear behind what is there. -/
import Derived.Test.YtihlnjafeocbnaaSl16
set_option autoImplicit false
namespace Go.SL
section
variable {α : Type} {τ : Ty α} {P : Program} {E : World} {n : Nat} {ρ : Env} {L : List HProp} {dst : Option Tmp} {ty : TypeId} {pos : String} {after : Array Edge} {g : Option (Nat × Bool)}
theorem Q_slLHc {t sz by_ : Nat} {z : Value} {x a b : Operand} {S : SV} {k k' : IntKind} {i j : Int} (lo hi : Nat) [u : TyU P t (.slice τ.e)] [v : TyI P τ.e sz z by_] (hx : ρ.ev x = some S.v) (ha : ρ.ev a = some (.int k i)) (hb : ρ.ev b = some (.int k' j))
    (hi' : i = (lo : Int)) (hj : j = (hi : Int)) (h1 : lo ≤ hi) (h2 : hi ≤ S.c) (hsz : sz = τ.sz) : QOp P E n ⟨dst, .slice t x (some a) (some b) none, ty, pos, after, g⟩ ρ L (S.sub τ.sz lo hi).v := fun c w hc hs => by
  obtain ⟨r, hr, hs', _⟩ := v.get
  subst hi' hj
  simp only [execOp, hc.ev hx, Option.map_some, hc.ev ha, hc.ev hb, Option.map_none]
  have e1 : (lo : Int) ≤ hi := by omega
  have e2 : (hi : Int) ≤ S.c := by omega
  simp [Instr.sliceAt, run_underlying u.h, Instr.slice, Instr.sliceBounds, run_sliceBound, e1, e2, sizeOf, typeInfo, hr, hs', hsz, SV.sub]
theorem Q_slHc {t sz by_ : Nat} {z : Value} {x b : Operand} {S : SV} {k' : IntKind} {j : Int} (hi : Nat) [u : TyU P t (.slice τ.e)] [v : TyI P τ.e sz z by_] (hx : ρ.ev x = some S.v) (hb : ρ.ev b = some (.int k' j))
    (hj : j = (hi : Int)) (h2 : hi ≤ S.c) : QOp P E n ⟨dst, .slice t x none (some b) none, ty, pos, after, g⟩ ρ L (S.sub τ.sz 0 hi).v := fun c w hc hs => by
  obtain ⟨r, hr, hs', _⟩ := v.get
  subst hj
  simp only [execOp, hc.ev hx, Option.map_some, hc.ev hb, Option.map_none]
  have e2 : (hi : Int) ≤ S.c := by omega
  simp [Instr.sliceAt, run_underlying u.h, Instr.slice, Instr.sliceBounds, run_sliceBound, e2, sizeOf, typeInfo, hr, SV.sub]
theorem Q_slLc {t sz by_ : Nat} {z : Value} {x a : Operand} {S : SV} {k : IntKind} {i : Int} (lo m : Nat) [u : TyU P t (.slice τ.e)] [v : TyI P τ.e sz z by_] (hx : ρ.ev x = some S.v) (ha : ρ.ev a = some (.int k i))
    (hi' : i = (lo : Int)) (hn : S.n = m) (h1 : lo ≤ m) (hsz : sz = τ.sz) : QOp P E n ⟨dst, .slice t x (some a) none none, ty, pos, after, g⟩ ρ L (S.sub τ.sz lo m).v := fun c w hc hs => by
  obtain ⟨r, hr, hs', _⟩ := v.get
  subst hi'
  simp only [execOp, hc.ev hx, Option.map_some, hc.ev ha, Option.map_none]
  have e1 : (lo : Int) ≤ (m : Int) := by omega
  simp [Instr.sliceAt, run_underlying u.h, Instr.slice, Instr.sliceBounds, run_sliceBound, e1, sizeOf, typeInfo, hr, hs', hsz, SV.sub, hn]
/-- s[lo:hi:max] -/
theorem Q_sl3 {t sz by_ : Nat} {z : Value} {x a b c : Operand} {S : SV} {k k' k'' : IntKind} {i j m : Int} (lo hi mx : Nat) [u : TyU P t (.slice τ.e)] [v : TyI P τ.e sz z by_] (hx : ρ.ev x = some S.v) (ha : ρ.ev a = some (.int k i)) (hb : ρ.ev b = some (.int k' j)) (hc' : ρ.ev c = some (.int k'' m))
    (hi' : i = (lo : Int)) (hj : j = (hi : Int)) (hm : m = (mx : Int)) (h1 : lo ≤ hi) (h2 : hi ≤ mx) (h3 : mx ≤ S.c) (hsz : sz = τ.sz) : QOp P E n ⟨dst, .slice t x (some a) (some b) (some c), ty, pos, after, g⟩ ρ L (.slice (if mx = lo then S.a else S.a.map (·.add (lo * τ.sz))) (hi - lo) (mx - lo)) := fun c w hc hs => by
  obtain ⟨r, hr, hs', _⟩ := v.get
  subst hi' hj hm
  simp only [execOp, hc.ev hx, Option.map_some, hc.ev ha, hc.ev hb, hc.ev hc']
  have e1 : (lo : Int) ≤ hi := by omega
  have e2 : (hi : Int) ≤ mx := by omega
  have e3 : (mx : Int) ≤ S.c := by omega
  simp [Instr.sliceAt, run_underlying u.h, Instr.slice, Instr.sliceBounds, run_sliceBound, e1, e2, e3, sizeOf, typeInfo, hr, hs', hsz]
/-- append(s[:k], t...), where there is room. -/
theorem O_appIn (i k : Nat) {K : Value → List HProp → Prop} {t t' sz by_ : Nat} {z : Value} {x y : Operand} {S T : SV} {l m : List α} [u : TyU P t (.slice τ.e)] [u' : TyU P t' (.slice τ.e)] [v : TyI P τ.e sz z by_] (hL : L[i]? = some (slc τ true S l)) (hT : ∀ w, Sat E w L → Rd τ w T m)
    (hx : ρ.ev x = some (S.sub τ.sz 0 k).v) (hy : ρ.ev y = some T.v) (hsz : sz = τ.sz) (hk : k ≤ l.length) (hroom : k + m.length ≤ S.c)
    (hK : K (SV.v ⟨(S.sub τ.sz 0 k).a, k + m.length, S.c⟩) (L.set i (slc τ true ⟨(S.sub τ.sz 0 k).a, k + m.length, S.c⟩ (l.take k ++ m)))) : JOp P E n ⟨dst, .call ⟨.builtin .append, #[x, y], #[t, t']⟩, ty, pos, after, g⟩ K ρ L := fun a w ha hs next Q hn => by
  have hR := hT w hs
  have hs2 := hs.sub_at i hL 0 k (Nat.zero_le _) hk
  have hlt : i < L.length := (List.getElem?_eq_some_iff.1 hL).1
  have hL2 : (L.set i (slc τ true (S.sub τ.sz 0 k) ((l.take k).drop 0)))[i]? = some (slc τ true (S.sub τ.sz 0 k) (l.take k)) := by rw [List.getElem?_set_self hlt]; rfl
  obtain ⟨r, hr, hrs, hrz, hrb⟩ := v.get
  have hSn : (S.sub τ.sz 0 k).n = k := by simp [SV.sub]
  have hSc : (S.sub τ.sz 0 k).c = S.c := by simp [SV.sub]
  have hlen : (Builtin.lenOf T.v).run P w = .ok m.length w := by simp [Builtin.lenOf, hR.1]
  have hfc : (Builtin.firstCells sz m.length T.v).run P w = .ok (τ.flat m).toArray w := by
    rcases hR.cells with h0 | ⟨b, hb, hc⟩
    · have hl0 : m.length = 0 := by
        have := τ.flat_length m
        rw [h0] at this
        have hp := τ.pos
        rcases Nat.eq_zero_or_pos m.length with h | h
        · exact h
        · have := Nat.mul_le_mul_right τ.sz h; simp only [List.length_nil] at *; omega
      rw [h0, hl0]
      cases hS : T.a <;> simp [SV.v, hS, Builtin.firstCells, loadCells, loadCellsFrom]
    · simp only [SV.v, hb, Builtin.firstCells]
      exact run_cells b (τ.flat m) (fun j u hu => hc j u hu) _ (by rw [τ.flat_length, hsz])
  generalize hU : S.sub τ.sz 0 k = U at *
  obtain ⟨p, ⟨hn', hcap, h⟩, hw⟩ := hs2.at hL2
  have hroom' : U.n + m.length ≤ U.c := by omega
  have key : ∃ w', (Builtin.append_ #[t, t'] ty #[U.v, T.v]).run P w = .ok (SV.v ⟨U.a, k + m.length, S.c⟩) w' ∧ Sat E w' (L.set i (slc τ true ⟨U.a, k + m.length, S.c⟩ (l.take k ++ m))) := by
    rcases h with ⟨hno, h0⟩ | ⟨_, _, hf0, _⟩ | ⟨b, o, hS, _, cs, fr, hp, hfr, hlen', hcs, hmx⟩
    rotate_left
    · cases hf0
    rotate_left
    · have hm0 : m.length = 0 := by omega
      have hk0 : k = 0 := by omega
      have hm : m = [] := List.eq_nil_of_length_eq_zero hm0
      refine ⟨w, ?_, ?_⟩
      · have hk1 : k + m.length ≤ S.c := hroom
        simp only [Builtin.append_, SV.v, hno]
        rw [hSn, hSc]
        simp [run_underlying u.h, run_underlying u'.h, sizeOf, typeInfo, hr, hrs, hlen, hk1, hfc]
      · have e : (⟨U.a, k + m.length, S.c⟩ : SV) = U := by cases U; simp at hSn hSc ⊢; omega
        rw [e, hm, List.append_nil]
        have := hs2
        simpa using this
    · have hb' := (hw b _ hp).2
      have hmul : (U.n + m.length) * τ.sz ≤ U.c * τ.sz := Nat.mul_le_mul_right _ hroom'
      rw [Nat.add_mul] at hmul
      obtain ⟨w', hst, ht1⟩ := run_storeCells (P := P) b τ.e fr (τ.flat m) (o + U.n * τ.sz) 0 cs w hb' hfr (by rw [τ.flat_length]; omega) (τ.flat_one m)
      refine ⟨w', ?_, ?_⟩
      · have hst' : (storeCells ((⟨b, o, none⟩ : Addr).add (U.n * sz)) (τ.flat m)).run P w = .ok () w' := by rw [addr_add, hsz]; exact hst
        have hk1 : k + m.length ≤ S.c := hroom
        simp only [Builtin.append_, SV.v, hS]
        rw [hSn, hSc] at *
        simp [run_underlying u.h, run_underlying u'.h, sizeOf, typeInfo, hr, hrs, hlen, hk1, hfc]
        rw [hst']
        simp
      · have hset : (L.set i (slc τ true U ((l.take k).drop 0))).set i (slc τ true ⟨U.a, k + m.length, S.c⟩ (l.take k ++ m)) = L.set i (slc τ true ⟨U.a, k + m.length, S.c⟩ (l.take k ++ m)) := by rw [List.set_set]
        rw [← hset]
        refine hs2.turn_at hL2 (fun p' ⟨_, _, hp2⟩ _ => ?_) ht1
        have hp' : ∃ o', p' b = some o' := by
          rcases hp2 with ⟨hno, _⟩ | ⟨_, _, hf0, _⟩ | ⟨b2, o2, hS2, _, cs2, fr2, hb2, _⟩
          · rw [hno] at hS; cases hS
          · cases hf0
          · rw [hS2] at hS; simp only [Option.some.injEq, Addr.mk.injEq] at hS; obtain ⟨rfl, _⟩ := hS; exact ⟨_, hb2⟩
        have hfl := τ.flat_length m
        refine ⟨hp', by simp; omega, by simp; omega, .inr (.inr ⟨b, o, hS, rfl, cs.take (o + U.n * τ.sz) ++ τ.flat m ++ cs.drop (o + U.n * τ.sz + (τ.flat m).length), fr, by simp, ?_, ?_, ?_, by rw [← hSc]; exact hmx⟩)⟩
        · have : (cs.take (o + U.n * τ.sz) ++ τ.flat m ++ cs.drop (o + U.n * τ.sz + (τ.flat m).length)).length = cs.length := by simp; omega
          rw [this]; exact hfr
        · have : (cs.take (o + U.n * τ.sz) ++ τ.flat m ++ cs.drop (o + U.n * τ.sz + (τ.flat m).length)).length = cs.length := by simp; omega
          rw [this, ← hSc]; exact hlen'
        · rw [τ.flat_append, ← hcs]
          have := splice_window cs o (U.n * τ.sz) (τ.flat m) (by omega)
          rw [hfl, ← Nat.add_mul] at this
          rw [hfl]
          rw [← hSn]
          exact this
  obtain ⟨w', hr', hs'⟩ := key
  unfold Oper.wp
  simp only [execOp, resolve]
  have e1 : (Array.map a.eval #[x, y]) = #[U.v, T.v] := by simp [ha.ev hx, ha.ev hy]
  simp only [run_bind_pure, invoke, e1, builtin]
  simp only [Sem.run_bind, hr', Result.andThen_ok, Sem.run_pure]
  exact hn _ _ w' hK hs'
theorem zeroCells_one {z : Array Value} {m : Nat} (h : ∀ v ∈ z.toList, v.oneCell' = true) (hz : 0 < z.size) : ∀ v ∈ (Builtin.zeroCells z m).toList, v.oneCell' = true := by
  intro v hv
  simp only [Builtin.zeroCells, Array.toList_map, List.mem_map] at hv
  obtain ⟨i, _, rfl⟩ := hv
  have hlt : i % z.size < z.size := Nat.mod_lt _ hz
  rw [getElem!_pos z _ hlt]
  exact h _ (Array.getElem_mem_toList hlt)
/-- clear(s[lo:hi]) behind what is there. -/
theorem O_clear (i lo hi : Nat) {K : Value → List HProp → Prop} {t sz by_ : Nat} {z : Value} {x : Operand} {S : SV} {l : List α} [u : TyU P t (.slice τ.e)] [v : TyI P τ.e sz z by_] (hL : L[i]? = some (slc τ true S l))
    (hx : ρ.ev x = some (S.sub τ.sz lo hi).v) (hsz : sz = τ.sz) (hz : z.cells.size = sz) (h1 : ∀ v ∈ z.cells.toList, v.oneCell' = true) (hlo : l.length ≤ lo) (hlh : lo ≤ hi) (hhi : hi ≤ S.c)
    (hK : K (.tuple #[]) L) : JOp P E n ⟨dst, .call ⟨.builtin .clear, #[x], #[t]⟩, ty, pos, after, g⟩ K ρ L := fun a w ha hs next Q hn => by
  obtain ⟨r, hr, hrs, hrz, hrb⟩ := v.get
  obtain ⟨p, ⟨hn', hcap, h⟩, hw⟩ := hs.at hL
  have key : ∃ w', (Builtin.clear_ #[t] ty #[(S.sub τ.sz lo hi).v]).run P w = .ok (.tuple #[]) w' ∧ Sat E w' L := by
    have hset : L.set i (slc τ true S l) = L := List.ext_getElem? fun j => by
      rw [List.getElem?_set]
      by_cases e : i = j
      · subst e; rw [hL]; simp [(List.getElem?_eq_some_iff.1 hL).1]
      · simp [e]
    by_cases he : hi = lo
    · refine ⟨w, ?_, hs⟩
      simp only [Builtin.clear_, SV.v, SV.sub, he, Nat.sub_self]
      generalize (if S.c = lo then S.a else Option.map (fun x => x.add (lo * τ.sz)) S.a) = q
      cases q <;> simp [run_underlying u.h]
    · rcases h with ⟨hno, h0⟩ | ⟨_, _, hf0, _⟩ | ⟨b, o, hS, _, cs, fr, hp, hfr, hlen', hcs, hmx⟩
      · refine ⟨w, ?_, hs⟩
        simp only [Builtin.clear_, SV.v, SV.sub, hno]
        simp [run_underlying u.h]
      · cases hf0
      · have hb' := (hw b _ hp).2
        have hzl : (Builtin.zeroCells z.cells (hi - lo)).toList.length = (hi - lo) * τ.sz := by rw [Array.length_toList, size_zeroCells, hz, hsz]
        have hm1 : lo * τ.sz + (hi - lo) * τ.sz = hi * τ.sz := by rw [← Nat.add_mul]; congr 1; omega
        have hm2 : hi * τ.sz ≤ S.c * τ.sz := Nat.mul_le_mul_right _ hhi
        have hm3 : S.n * τ.sz ≤ lo * τ.sz := Nat.mul_le_mul_right _ (by omega)
        obtain ⟨w', hst, ht1⟩ := run_storeCells (P := P) b τ.e fr (Builtin.zeroCells z.cells (hi - lo)).toList (o + lo * τ.sz) 0 cs w hb' hfr (by rw [hzl]; omega) (zeroCells_one h1 (by rw [hz, hsz]; exact τ.pos))
        refine ⟨w', ?_, ?_⟩
        · have hst' : (storeCells (⟨b, o + lo * τ.sz, none⟩ : Addr) (Builtin.zeroCells z.cells (hi - lo)).toList).run P w = .ok () w' := hst
          have hne : S.c ≠ lo := by omega
          obtain ⟨q, hq⟩ : ∃ q, hi - lo = q + 1 := ⟨hi - lo - 1, by omega⟩
          simp only [Builtin.clear_, SV.v, SV.sub, if_neg hne, hS, Option.map_some, addr_add]
          rw [hq] at hst' ⊢
          simp [run_underlying u.h, zeroValue, typeInfo, hr, hrz]
          rw [hst']
          simp
        · rw [← hset]
          refine hs.turn_at hL (fun p' ⟨_, _, hp2⟩ _ => ?_) ht1
          have hp' : ∃ o', p' b = some o' := by
            rcases hp2 with ⟨hno, _⟩ | ⟨_, _, hf0, _⟩ | ⟨b2, o2, hS2, _, cs2, fr2, hb2, _⟩
            · rw [hno] at hS; cases hS
            · cases hf0
            · rw [hS2] at hS; simp only [Option.some.injEq, Addr.mk.injEq] at hS; obtain ⟨rfl, _⟩ := hS; exact ⟨_, hb2⟩
          have hl3 : (cs.take (o + lo * τ.sz) ++ (Builtin.zeroCells z.cells (hi - lo)).toList ++ cs.drop (o + lo * τ.sz + (Builtin.zeroCells z.cells (hi - lo)).toList.length)).length = cs.length := by
            simp only [List.length_append, List.length_take, List.length_drop, hzl]; omega
          refine ⟨hp', hn', hcap, .inr (.inr ⟨b, o, hS, rfl, cs.take (o + lo * τ.sz) ++ (Builtin.zeroCells z.cells (hi - lo)).toList ++ cs.drop (o + lo * τ.sz + (Builtin.zeroCells z.cells (hi - lo)).toList.length), fr, by simp, ?_, ?_, ?_, hmx⟩)⟩
          · rw [hl3]; exact hfr
          · rw [hl3]; exact hlen'
          · rw [← hcs, List.append_assoc, List.drop_append, List.take_append]
            have hl4 : ((cs.take (o + lo * τ.sz)).drop o).length = lo * τ.sz := by simp; omega
            rw [hl4, show S.n * τ.sz - lo * τ.sz = 0 by omega, List.take_zero, List.append_nil, List.drop_take, List.take_take]
            congr 1; omega
  obtain ⟨w', hr', hs'⟩ := key
  unfold Oper.wp
  simp only [execOp, resolve]
  have e1 : (Array.map a.eval #[x]) = #[(S.sub τ.sz lo hi).v] := by simp [ha.ev hx]
  simp only [run_bind_pure, invoke, e1, builtin]
  simp only [Sem.run_bind, hr', Result.andThen_ok, Sem.run_pure]
  exact hn _ _ w' hK hs'
end
end Go.SL
