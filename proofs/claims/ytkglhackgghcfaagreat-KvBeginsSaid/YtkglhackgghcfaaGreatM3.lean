/- Part 3 of the texts below the row: Sl6, Sl7, Sl8, Sl9. -/
import Derived.KernelRfl
import Derived.Deep.Slices
import Derived.Deep.Fields
import Derived.ChangeSame
import Derived.ChangeArms
import Derived.Below
import Derived.SizedLaws
import Derived.Test.YtkglhackgghcfaaGreatM2
/- Operations that make or write slices; calls and their specifications. -/
set_option autoImplicit false
namespace Go.SL

section
variable {α : Type} {τ : Ty α} {P : Program} {E : World} {n : Nat} {ρ : Env} {L : List HProp} {dst : Option Tmp} {ty : TypeId} {pos : String} {after : Array Edge} {g : Option (Nat × Bool)}

/-- A new block as an owned slice. -/
theorem Sat.new_row {w w' : World} (h : Sat E w L) {b : Nat} {cs : List Value} {fr : Nat × Nat} {l : List α} {c : Nat} (hn : Newed w w' b (.cells cs.toArray τ.e fr)) (hf : fr.2 ≤ fr.1 ∨ cs.length ≤ fr.1) (hc : l.length ≤ c) (hl : c * τ.sz ≤ cs.length)
    (hcs : cs.take (l.length * τ.sz) = τ.flat l) (hm : c ≤ 9223372036854775807) : Sat E w' (slc τ true ⟨some ⟨b, 0, none⟩, l.length, c⟩ l :: L) :=
  (h.newed hn).weaken fun p hp => ⟨rfl, hc, .inr (.inr ⟨b, 0, rfl, rfl, cs, fr, hp, hf, by simpa using hl, by simpa using hcs, hm⟩)⟩

theorem splice_window (cs : List Value) (o k : Nat) (vs : List Value) (h : o + k + vs.length ≤ cs.length) :
    ((cs.take (o + k) ++ vs ++ cs.drop (o + k + vs.length)).drop o).take (k + vs.length) = (cs.drop o).take k ++ vs := by
  have hA : (cs.take (o + k)).length = o + k := by simp; omega
  rw [List.append_assoc, List.drop_append_of_le_length (by omega), List.drop_take, show o + k - o = k by omega, ← List.append_assoc]
  have hB : ((cs.drop o).take k ++ vs).length = k + vs.length := by simp; omega
  rw [← hB, List.take_left']
  rfl

/-- What an append does: to what is owned by the chunk i, whose first k elements are l. -/
theorem run_append_all {w : World} (hs : Sat E w L) (i : Nat) {t t' ty sz by_ : Nat} {z : Value} {d' : TypeDesc} (ht : P.underlying t = some (.slice τ.e)) (ht' : P.underlying t' = some d') (hd' : (match d' with | .int _ => false | _ => true) = true)
    (hi : TyI P τ.e sz z by_) (hsz : sz = τ.sz) (hz : z.cells.size = sz) (S : SV) (l m : List α) (x : Value)
    (hL : L[i]? = some (slc τ true S l)) (hlen : (Builtin.lenOf x).run P w = .ok m.length w) (hfc : ∀ w', w'.heap = w.heap → (Builtin.firstCells sz m.length x).run P w' = .ok (τ.flat m).toArray w')
    (hb : (l.length + m.length) * by_ ≤ 140737488355328) (hb1 : 1 ≤ by_) :
    ∃ S' w', (Builtin.append_ #[t, t'] ty #[S.v, x]).run P w = .ok (SV.v S') w' ∧ Sat E w' (L.set i (slc τ true S' (l ++ m))) := by
  obtain ⟨r, hr, hrs, hrz, hrb⟩ := hi.get
  obtain ⟨p, ⟨hn, hcap, h⟩, hw⟩ := hs.at hL
  have hneed : (l.length + m.length) ≤ 140737488355328 := Nat.le_trans (Nat.le_mul_of_pos_right _ hb1) hb
  have hzeros : (do let d ← underlying t'; pure (match d with | .int _ => true | _ => false) : Sem Bool).run P w = .ok false w := by
    simp only [Sem.run_bind, run_underlying ht', Result.andThen_ok, Sem.run_pure]
    cases d' <;> simp at hd' ⊢
  have hfit : Builtin.nextslicecap (S.n + m.length) S.c * by_ ≤ 281474976710656 ∨ S.n + m.length ≤ S.c := by
    by_cases hroom : S.n + m.length ≤ S.c
    · exact .inr hroom
    · left
      have : Builtin.nextslicecap (S.n + m.length) S.c ≤ 2 * (S.n + m.length) := by
        unfold Builtin.nextslicecap
        split
        · omega
        · split
          · omega
          · rename_i h1 h2
            have grow : ∀ (rounds c N : Nat), c ≤ 2 * N → 256 ≤ N → (∀ c', c' < N → c' + (c' + 768) / 4 ≤ 2 * N) → Builtin.growBy N rounds c ≤ 2 * N := by
              intro rounds
              induction rounds with
              | zero => intro c N h _ _; exact h
              | succ r ih =>
                intro c N h h2 h3
                unfold Builtin.growBy
                split
                · exact h
                · exact ih _ _ (h3 c (by omega)) h2 h3
            exact grow 4 S.c (S.n + m.length) (by omega) (by omega) (by intro c' hc'; omega)
      calc Builtin.nextslicecap (S.n + m.length) S.c * by_ ≤ 2 * (S.n + m.length) * by_ := Nat.mul_le_mul_right _ this
        _ = 2 * ((l.length + m.length) * by_) := by rw [hn, Nat.mul_assoc]
        _ ≤ 281474976710656 := by omega
  have hmatch : ∀ (b : Option Addr), S.a = b → S.v = .slice b S.n S.c := fun b hb => by simp [SV.v, hb]
  have hcellsl : ∀ w', w'.heap = w.heap → (Builtin.firstCells sz S.n S.v).run P w' = .ok (τ.flat l).toArray w' := fun w' hw' => by
    have hR := (hs.rd i hL)
    rcases hR.cells with h0 | ⟨a, ha, hc⟩
    · have hl0 : S.n = 0 := by
        have := τ.flat_length l
        rw [h0] at this
        have hp := τ.pos
        rcases Nat.eq_zero_or_pos l.length with h | h
        · omega
        · have := Nat.mul_le_mul_right τ.sz h; simp only [List.length_nil] at *; omega
      rw [h0, hl0]
      cases hS : S.a <;> simp [SV.v, hS, Builtin.firstCells, loadCells, loadCellsFrom]
    · simp only [SV.v, ha, Builtin.firstCells]
      exact run_cells a (τ.flat l) (fun j u hu => by have := hc j u hu; simpa [World.cell?, hw'] using this) _ (by rw [τ.flat_length, hsz, hn])
  by_cases hroom : S.n + m.length ≤ S.c
  · -- in place
    have hf := hfc w rfl
    rcases h with ⟨hno, h0⟩ | ⟨_, _, hf0, _⟩ | ⟨b, o, hS, _, cs, fr, hp, hfr, hlen', hcs, hmx⟩
    rotate_left
    · cases hf0
    rotate_left
    · refine ⟨S, w, ?_, ?_⟩
      · have hm0 : m.length = 0 := by omega
        have hS0 : S.n = 0 := by omega
        have hroom' : S.n + m.length ≤ S.c := hroom
        simp only [Builtin.append_, SV.v, hno]
        simp [run_underlying ht, run_underlying ht', sizeOf, typeInfo, hr, hrs, hlen, hroom', hf]
        cases d' <;> simp at hd' <;> simp [hm0]
      · have : m = [] := List.eq_nil_of_length_eq_zero (by omega)
        subst this
        rw [List.append_nil]
        exact hs.map_at hL fun _ h => h
    · have hb' := (hw b _ hp).2
      have hmul : (S.n + m.length) * τ.sz ≤ S.c * τ.sz := Nat.mul_le_mul_right _ hroom
      rw [Nat.add_mul] at hmul
      obtain ⟨w', hst, ht1⟩ := run_storeCells (P := P) b τ.e fr (τ.flat m) (o + S.n * τ.sz) 0 cs w hb' hfr (by rw [τ.flat_length]; omega) (τ.flat_one m)
      refine ⟨⟨S.a, S.n + m.length, S.c⟩, w', ?_, ?_⟩
      · have hroom' : S.n + m.length ≤ S.c := hroom
        simp only [Builtin.append_, SV.v, hS]
        simp [run_underlying ht, run_underlying ht', sizeOf, typeInfo, hr, hrs]
        have hst' : (storeCells ((⟨b, o, none⟩ : Addr).add (S.n * sz)) (τ.flat m)).run P w = .ok () w' := by rw [addr_add, hsz]; exact hst
        cases d' <;> simp at hd' <;> simp [hlen, hroom', hf, hst']
      · refine hs.turn_at hL (fun p' ⟨_, _, hp2⟩ _ => ?_) ht1
        have hp' : ∃ o', p' b = some o' := by
          rcases hp2 with ⟨hno, _⟩ | ⟨_, _, hf0, _⟩ | ⟨b2, o2, hS2, _, cs2, fr2, hb2, _⟩
          · rw [hno] at hS; cases hS
          · cases hf0
          · rw [hS2] at hS; simp only [Option.some.injEq, Addr.mk.injEq] at hS; obtain ⟨rfl, _⟩ := hS; exact ⟨_, hb2⟩
        have hfl := τ.flat_length m
        refine ⟨hp', by simp [hn], hroom, .inr (.inr ⟨b, o, hS, rfl, cs.take (o + S.n * τ.sz) ++ τ.flat m ++ cs.drop (o + S.n * τ.sz + (τ.flat m).length), fr, by simp, ?_, ?_, ?_, hmx⟩)⟩
        · have : (cs.take (o + S.n * τ.sz) ++ τ.flat m ++ cs.drop (o + S.n * τ.sz + (τ.flat m).length)).length = cs.length := by simp; omega
          rw [this]; exact hfr
        · have : (cs.take (o + S.n * τ.sz) ++ τ.flat m ++ cs.drop (o + S.n * τ.sz + (τ.flat m).length)).length = cs.length := by simp; omega
          rw [this]; exact hlen'
        · rw [τ.flat_append, ← hcs]
          have := splice_window cs o (S.n * τ.sz) (τ.flat m) (by omega)
          rw [hfl, ← Nat.add_mul] at this
          rw [hfl]
          exact this
  · -- a new row
    have hfit := hfit.resolve_right hroom
    have hn' : ¬ (S.n + m.length ≤ S.c) := hroom
    have h63' : ¬ (9223372036854775807 < ((S.n : Int) + (m.length : Int))) := by omega
    have h48' : ¬ (281474976710656 < Builtin.nextslicecap (S.n + m.length) S.c * by_) := by omega
    have hf := hfc w.drew rfl
    have hfo := hcellsl w.drew rfl
    let cap := grownCap w (S.n + m.length) S.c τ.e
    let C : List Value := τ.flat l ++ τ.flat m ++ (Builtin.zeroCells z.cells (cap - (S.n + m.length))).toList
    have hcapge : S.n + m.length ≤ cap := grownCap_ge w _ _ _
    have hcaple : cap ≤ 9223372036854775807 := by
      have := grownCap_le_maxLen w (S.n + m.length) S.c τ.e (by unfold maxLen; omega)
      unfold maxLen at this; exact this
    refine ⟨⟨some ⟨w.heap.size, 0, none⟩, S.n + m.length, cap⟩, w.drew.alloc (.cells C.toArray τ.e), ?_, ?_⟩
    · have e1 : C.toArray = (τ.flat l).toArray ++ (τ.flat m).toArray ++ Builtin.zeroCells z.cells (cap - (S.n + m.length)) := by
        simp [C]
      rw [e1]
      have key : (Builtin.append_ #[t, t'] ty #[.slice S.a S.n S.c, x]).run P w = .ok (SV.v ⟨some ⟨w.heap.size, 0, none⟩, S.n + m.length, cap⟩) (w.drew.alloc (.cells ((τ.flat l).toArray ++ (τ.flat m).toArray ++ Builtin.zeroCells z.cells (cap - (S.n + m.length))) τ.e)) := by
        have hfo' : (Builtin.firstCells r.size S.n (.slice S.a S.n S.c)).run P w.drew = .ok (τ.flat l).toArray w.drew := by rw [hrs]; exact hfo
        have hf' : (Builtin.firstCells r.size m.length x).run P w.drew = .ok (τ.flat m).toArray w.drew := by rw [hrs]; exact hf
        simp only [Builtin.append_]
        simp [run_underlying ht, run_underlying ht', sizeOf, typeInfo, hr]
        cases d' <;> simp at hd' <;> simp [zeroValue, typeInfo, hr, hrz, hrb, hlen, hn', h63', h48', Question.forced, hf', hfo', newRow, grownCap, cap, SV.v] <;> (congr 2; rw [← Array.append_assoc]; simp)
      exact key
    · have hnw := newed_drew_alloc w (.cells C.toArray τ.e)
      have hfl := τ.flat_length (l ++ m)
      rw [τ.flat_append] at hfl
      have hsat := hs.new_row (τ := τ) (l := l ++ m) (c := cap) hnw (.inl (Nat.le_refl _)) (by simp; omega) (by
          have hzl : (Builtin.zeroCells z.cells (cap - (S.n + m.length))).toList.length = (cap - (S.n + m.length)) * τ.sz := by rw [Array.length_toList, size_zeroCells, hz, hsz]
          have hCl : C.length = (τ.flat l).length + (τ.flat m).length + (cap - (S.n + m.length)) * τ.sz := by
            show (τ.flat l ++ τ.flat m ++ (Builtin.zeroCells z.cells (cap - (S.n + m.length))).toList).length = _
            rw [List.length_append, List.length_append, hzl]
          rw [hCl, Nat.sub_mul]
          have := Nat.mul_le_mul_right τ.sz hcapge
          rw [List.length_append, List.length_append] at hfl
          rw [hn] at this ⊢
          omega) (by
          simp only [C]
          rw [List.take_append, show (l ++ m).length * τ.sz - (τ.flat l ++ τ.flat m).length = 0 by omega, List.take_zero, List.append_nil, List.take_of_length_le (by omega), τ.flat_append]) hcaple
      have := hsat.swap i
      rw [hn]
      rw [List.length_append] at this
      exact this

/-- append(s, t...) -/
theorem O_app (i : Nat) {K : Value → List HProp → Prop} {t t' sz by_ : Nat} {z : Value} {x y : Operand} {S T : SV} {l m : List α} [u : TyU P t (.slice τ.e)] [u' : TyU P t' (.slice τ.e)] [v : TyI P τ.e sz z by_] (hL : L[i]? = some (slc τ true S l)) (hT : ∀ w, Sat E w L → Rd τ w T m)
    (hx : ρ.ev x = some S.v) (hy : ρ.ev y = some T.v) (hsz : sz = τ.sz) (hz : z.cells.size = sz) (hb : (l.length + m.length) * by_ ≤ 140737488355328) (hb1 : 1 ≤ by_)
    (hK : ∀ S', K (SV.v S') (L.set i (slc τ true S' (l ++ m)))) : JOp P E n ⟨dst, .call ⟨.builtin .append, #[x, y], #[t, t']⟩, ty, pos, after, g⟩ K ρ L := fun a w ha hs next Q hn => by
  have hR := hT w hs
  obtain ⟨S', w', hr, hs'⟩ := run_append_all (P := P) (ty := ty) hs i u.h u'.h rfl v hsz hz S l m T.v hL (by simp [Builtin.lenOf, hR.1]) (fun w' hw' => by
    rcases hR.cells with h0 | ⟨b, hb, hc⟩
    · have hl0 : m.length = 0 := by
        have := τ.flat_length m
        rw [h0] at this
        have hp := τ.pos
        rcases Nat.eq_zero_or_pos m.length with h | h
        · exact h
        · have := Nat.mul_le_mul_right τ.sz h; simp only [List.length_nil] at *; omega
      rw [h0, hl0]
      cases hS : T.a <;> simp [SV.v, hS, Builtin.firstCells, loadCells, loadCellsFrom]
    · simp only [SV.v, hb, Builtin.firstCells]
      exact run_cells b (τ.flat m) (fun j u hu => by have := hc j u hu; simpa [World.cell?, hw'] using this) _ (by rw [τ.flat_length, hsz])) hb hb1
  unfold Oper.wp
  simp only [execOp, resolve]
  have e1 : (Array.map a.eval #[x, y]) = #[S.v, T.v] := by simp [ha.ev hx, ha.ev hy]
  simp only [run_bind_pure, invoke, e1, builtin]
  simp only [Sem.run_bind, hr, Result.andThen_ok, Sem.run_pure]
  exact hn _ _ w' (hK S') hs'

/-- append(b, s...) of a string -/
theorem O_appS {β : Ty UInt8} (hβ : ∀ b, β.enc b = [.int .u8 (b.toNat : Int)]) (i : Nat) {K : Value → List HProp → Prop} {t t' sz by_ : Nat} {z : Value} {x y : Operand} {S : SV} {l m : List UInt8} [u : TyU P t (.slice β.e)] [u' : TyU P t' .string] [v : TyI P β.e sz z by_] (hL : L[i]? = some (slc β true S l))
    (hx : ρ.ev x = some S.v) (hy : ρ.ev y = some (str m)) (hsz : sz = β.sz) (hz : z.cells.size = sz) (hb : (l.length + m.length) * by_ ≤ 140737488355328) (hb1 : 1 ≤ by_)
    (hK : ∀ S', K (SV.v S') (L.set i (slc β true S' (l ++ m)))) : JOp P E n ⟨dst, .call ⟨.builtin .append, #[x, y], #[t, t']⟩, ty, pos, after, g⟩ K ρ L := fun a w ha hs next Q hn => by
  have hflat : β.flat m = m.map (fun b : UInt8 => Value.int .u8 (b.toNat : Int)) := by
    clear hK hL hy hs ha hx hb
    induction m with
    | nil => rfl
    | cons b m ih => rw [β.flat_cons, ih, hβ]; rfl
  obtain ⟨S', w', hr, hs'⟩ := run_append_all (P := P) (ty := ty) hs i u.h u'.h rfl v hsz hz S l m (str m) hL (by simp [Builtin.lenOf, size_str]) (fun w' hw' => by
    have := Lib.run_firstCells_string (P := P) w' sz ⟨m.toArray⟩
    rw [size_str] at this
    rw [this, hflat]
    simp [Lib.strCells]) hb hb1
  unfold Oper.wp
  simp only [execOp, resolve]
  have e1 : (Array.map a.eval #[x, y]) = #[S.v, str m] := by simp [ha.ev hx, ha.ev hy]
  simp only [run_bind_pure, invoke, e1, builtin]
  simp only [Sem.run_bind, hr, Result.andThen_ok, Sem.run_pure]
  exact hn _ _ w' (hK S') hs'

/-- []byte(s) -/
theorem O_s2b {β : Ty UInt8} (hβ : ∀ b, β.enc b = [.int .u8 (b.toNat : Int)]) (hβs : β.sz = 1) {K : Value → List HProp → Prop} {s t : Nat} {x : Operand} {m : List UInt8} [u : TyU P s .string] [u' : TyU P t (.slice β.e)] [u8 : TyU P β.e (.int .u8)] (hx : ρ.ev x = some (str m)) (hm : m.length ≤ 140737488355328)
    (hK : ∀ S, K (SV.v S) (slc β true S m :: L)) : JOp P E n ⟨dst, .convert s t x, ty, pos, after, g⟩ K ρ L := fun a w ha hs next Q hn => by
  have hr := run_bytes_of_string (P := P) w s t β.e ⟨m.toArray⟩ u.h u'.h u8.h
  have hflat : β.flat m = m.map (fun b : UInt8 => Value.int .u8 (b.toNat : Int)) := by
    clear hK hs ha hx hr hm
    induction m with
    | nil => rfl
    | cons b m ih => rw [β.flat_cons, ih, hβ]; rfl
  rw [size_str] at hr
  have hge := grownCap_ge w m.length 0 β.e
  have hle : grownCap w m.length 0 β.e ≤ 9223372036854775807 := by
    have := grownCap_le_maxLen w m.length 0 β.e (by unfold maxLen; omega)
    unfold maxLen at this; exact this
  have hC : (bytesRow ⟨m.toArray⟩ (grownCap w m.length 0 β.e)).toList = β.flat m ++ List.replicate (grownCap w m.length 0 β.e - m.length) (.int .u8 0) := by
    rw [hflat]
    simp [bytesRow, size_str]
  have hnw := newed_drew_alloc w (.cells (bytesRow ⟨m.toArray⟩ (grownCap w m.length 0 β.e)) β.e ((bytesRow ⟨m.toArray⟩ (grownCap w m.length 0 β.e)).size, (bytesRow ⟨m.toArray⟩ (grownCap w m.length 0 β.e)).size + 1))
  have hfl := β.flat_length m
  have hsz : (bytesRow ⟨m.toArray⟩ (grownCap w m.length 0 β.e)).toList.length = grownCap w m.length 0 β.e := by
    rw [hC, List.length_append, hfl, List.length_replicate, hβs]; omega
  have hsat := hs.new_row (τ := β) (l := m) (c := grownCap w m.length 0 β.e) (cs := (bytesRow ⟨m.toArray⟩ (grownCap w m.length 0 β.e)).toList) (by simpa using hnw) (.inr (by simp)) hge (by rw [hsz, hβs]; omega) (by
    rw [hC, List.take_append, hfl, show m.length * β.sz - m.length * β.sz = 0 by omega, List.take_zero, List.append_nil, List.take_of_length_le (by omega)]) hle
  unfold Oper.wp
  simp only [execOp, ha.ev hx]
  simp only [Sem.run_bind, hr, Result.andThen_ok, Sem.run_pure]
  exact hn _ _ _ (hK ⟨some ⟨w.heap.size, 0, none⟩, m.length, grownCap w m.length 0 β.e⟩) hsat

/-- make([]T, m) -/
theorem O_mk {K : Value → List HProp → Prop} {t sz by_ : Nat} {z : Value} {x y : Operand} {k k' : IntKind} {i j : Int} (m : Nat) (a0 : α) [u : TyU P t (.slice τ.e)] [v : TyI P τ.e sz z by_] (hx : ρ.ev x = some (.int k i)) (hy : ρ.ev y = some (.int k' j)) (hi : i = (m : Int)) (hj : j = (m : Int)) (hsz : sz = τ.sz) (hz : z.cells.toList = τ.enc a0)
    (hb : m * by_ ≤ 140737488355328) (hb1 : 1 ≤ by_) (hK : ∀ S, K (SV.v S) (slc τ true S (List.replicate m a0) :: L)) : JOp P E n ⟨dst, .makeSlice t x y, ty, pos, after, g⟩ K ρ L := fun a w ha hs next Q hn => by
  obtain ⟨r, hr, hrs, hrz, hrb⟩ := v.get
  subst hi hj
  have hm : m ≤ 140737488355328 := Nat.le_trans (Nat.le_mul_of_pos_right _ hb1) hb
  have hbb : (r.bytes : Int) * (m : Int) ≤ 281474976710656 := by
    rw [hrb, ← Int.natCast_mul, Nat.mul_comm]; omega
  have hrun := run_make (P := P) w t τ.e r z u.h hr hrz k k' m m (by omega) (by omega) hbb (by omega)
  simp only [Int.toNat_natCast, hrs] at hrun
  have hzs : z.cells.size = sz := by rw [← Array.length_toList, hz, τ.len, hsz]
  have hcells : (madeCells z.cells (m * sz)).toList = τ.flat (List.replicate m a0) := by
    rw [τ.flat_replicate, ← hz]
    apply List.ext_getElem?
    intro q
    have hp := τ.pos
    have e0 : z.cells.toList.length = sz := by simp [hzs]
    by_cases hq : q < m * sz
    · have hqs : q % sz < sz := Nat.mod_lt _ (by omega)
      have e1 : (madeCells z.cells (m * sz)).toList[q]? = some (z.cells[q % sz]!) := by
        simp [madeCells, hq, hzs]
      have : ∀ (m : Nat) (ls : List Value) (q : Nat), 0 < ls.length → q < m * ls.length → (List.replicate m ls).flatten[q]? = ls[q % ls.length]? := by
        intro m
        induction m with
        | zero => intro ls q _ h; simp at h
        | succ m ih =>
          intro ls q hp h
          rw [List.replicate_succ, List.flatten_cons]
          by_cases hlt : q < ls.length
          · rw [List.getElem?_append_left hlt, Nat.mod_eq_of_lt hlt]
          · rw [List.getElem?_append_right (by omega), ih _ _ hp (by rw [Nat.add_mul] at h; omega)]
            congr 1
            rw [← Nat.mod_eq_sub_mod (by omega)]
      rw [e1, this m _ q (by omega) (by rw [e0]; exact hq), e0]
      have : q % sz < z.cells.size := by omega
      simp [this]
    · rw [List.getElem?_eq_none (by simp [madeCells]; omega), List.getElem?_eq_none]
      simp [e0]
      first | omega | (rw [Nat.mul_comm]; omega)
  have hfl := τ.flat_length (List.replicate m a0)
  rw [List.length_replicate] at hfl
  have hsat := hs.new_row (τ := τ) (l := List.replicate m a0) (c := m) (cs := (madeCells z.cells (m * sz)).toList) (by simpa using newed_alloc w (.cells (madeCells z.cells (m * sz)) τ.e)) (.inl (Nat.le_refl _)) (by simp) (by rw [hcells, hfl]; exact Nat.le_refl _) (by
    rw [List.length_replicate, hcells, List.take_of_length_le (by omega)]) (by omega)
  unfold Oper.wp
  simp only [execOp, ha.ev hx, ha.ev hy]
  simp only [Sem.run_bind, hrun, Result.andThen_ok, Sem.run_pure]
  rw [List.length_replicate] at hsat
  exact hn _ _ _ (hK ⟨some ⟨w.heap.size, 0, none⟩, m, m⟩) hsat
end
end Go.SL
/- Normal forms of lists of chunks; specifications of functions, calls; what a function hands back; slices written out. -/
set_option autoImplicit false
namespace Go.SL

/-! ### Lists of chunks written out -/
class GetAt (i : Nat) (L : List HProp) (c : outParam HProp) : Prop where
  h : L.getD i emp = c
instance (c : HProp) (l : List HProp) : GetAt 0 (c :: l) c := ⟨rfl⟩
instance (i : Nat) (a c : HProp) (l : List HProp) [g : GetAt i l c] : GetAt (i + 1) (a :: l) c := ⟨by rw [← g.h]; rfl⟩
class NormL (L : List HProp) (L' : outParam (List HProp)) : Prop where
  h : L = L'
instance : NormL [] [] := ⟨rfl⟩
instance (a : HProp) (l l' : List HProp) [g : NormL l l'] : NormL (a :: l) (a :: l') := ⟨by rw [g.h]⟩
instance (a c : HProp) (l l' : List HProp) [g : NormL l l'] : NormL (List.set (a :: l) 0 c) (c :: l') := ⟨by rw [← g.h]; rfl⟩
instance (i : Nat) (a c : HProp) (l l' : List HProp) [g : NormL (l.set i c) l'] : NormL (List.set (a :: l) (i + 1) c) (a :: l') := ⟨by rw [← g.h]; rfl⟩
instance (a : HProp) (l m l' : List HProp) [g : NormL (l ++ m) l'] : NormL ((a :: l) ++ m) (a :: l') := ⟨by rw [← g.h]; rfl⟩
instance (m l' : List HProp) [g : NormL m l'] : NormL ([] ++ m) l' := ⟨by rw [← g.h]; rfl⟩
instance (L : List HProp) : NormL (pick [] L) [] := ⟨rfl⟩
instance (i : Nat) (r : List Nat) (L l' : List HProp) (c : HProp) [g : GetAt i L c] [g' : NormL (pick r L) l'] : NormL (pick (i :: r) L) (c :: l') := ⟨by rw [← g'.h, ← g.h]; rfl⟩

section
variable {P : Program} {E : World} {n : Nat} {Q : Post} {ρ : Env} {L L' : List HProp} {c : Code} {all ops : List Oper}
theorem J.norm [g : NormL L L'] (h : J P E n c Q ρ L') : J P E n c Q ρ L := by rw [g.h]; exact h
theorem JL.norm [g : NormL L L'] (h : JL P E n all ops Q ρ L') : JL P E n all ops Q ρ L := by rw [g.h]; exact h
theorem J.re (idx : List Nat) (hi : okIdx L.length idx = true) [g : NormL (SL.pick idx L) L'] (h : J P E n c Q ρ L') : J P E n c Q ρ L := J.pick idx hi (by rw [g.h]; exact h)
theorem JL.re (idx : List Nat) (hi : okIdx L.length idx = true) [g : NormL (SL.pick idx L) L'] (h : JL P E n all ops Q ρ L') : JL P E n all ops Q ρ L := JL.pick idx hi (by rw [g.h]; exact h)
theorem Ent.re (idx : List Nat) (hi : okIdx L.length idx = true) [g : NormL (SL.pick idx L) L'] : Ent L L' := by rw [← g.h]; exact Ent.pick idx L hi
end

theorem QOp.as {P : Program} {E : World} {n : Nat} {o : Oper} {ρ : Env} {L : List HProp} {v v' : Value} (h : QOp P E n o ρ L v) (e : v = v') : QOp P E n o ρ L v' := e ▸ h
/-! ### A step of a region -/
/-- Where a guard lies, what it reads, whether it is met. -/
def guardSlot (all : List Oper) (o : Oper) : Option Tmp := match o.guard with
  | none => none
  | some (g, _) => (all.toArray[g]?).bind (·.dst)
def guardOk (all : List Oper) (ρ : Env) (o : Oper) (want : Bool) : Bool := match o.guard with
  | none => want
  | some (g, b) => match (all.toArray[g]?).bind (·.dst) with
    | none => false
    | some d => match ρ.get d with
      | some u => match gbOf u with
        | some c => bif want then (bif c then b else !b) else (bif c then !b else b)
        | none => !want
      | none => false

section
variable {P : Program} {E : World} {n : Nat} {Q : Post} {ρ : Env} {L L' : List HProp} {o : Oper} {all rest : List Oper}
theorem guardOk_t (h : guardOk all ρ o true = true) : o.guard = none ∨ ∃ g b d, o.guard = some (g, b) ∧ (all.toArray[g]?).bind (·.dst) = some d ∧ ρ.get d = some (.bool b) := by
  unfold guardOk at h
  split at h
  · rename_i hg; exact .inl hg
  · rename_i g b hg
    split at h
    · cases h
    · rename_i d hd
      split at h
      · rename_i u hu
        split at h
        · rename_i c hc
          refine .inr ⟨g, b, d, hg, hd, ?_⟩
          rw [hu]
          have e : u = .bool c := by cases u <;> simp [gbOf] at hc; rw [hc]
          rw [e]
          cases c <;> cases b <;> simp at h <;> rfl
        · cases h
      · cases h
theorem guardOk_f (h : guardOk all ρ o false = true) : ∃ g b d u, o.guard = some (g, b) ∧ (all.toArray[g]?).bind (·.dst) = some d ∧ ρ.get d = some u ∧ gbOf u ≠ some b := by
  unfold guardOk at h
  split at h
  · cases h
  · rename_i g b hg
    split at h
    · cases h
    · rename_i d hd
      split at h
      · rename_i u hu
        refine ⟨g, b, d, u, hg, hd, hu, ?_⟩
        split at h
        · rename_i c hc
          rw [hc]
          cases c <;> cases b <;> simp at h ⊢
        · rename_i hc
          rw [hc]; simp
      · cases h
theorem L_o {d : Tmp} (hd : o.dst = some d) (hn : Nat.blt d n = true) (hg : guardOk all ρ o true = true) (h : JOp P E n o (fun v L' => JL P E n all rest Q ((d, v) :: ρ) L') ρ L) : JL P E n all (o :: rest) Q ρ L := by
  rcases guardOk_t hg with h1 | ⟨g, b, e, h1, h2, h3⟩
  · exact JL_o (by rw [hd]; exact hn) h1 (by rw [hd]; exact h)
  · exact JL_oy (by rw [hd]; exact hn) h1 h2 h3 (by rw [hd]; exact h)
theorem L_q {d : Tmp} {v : Value} (hq : QOp P E n o ρ L v) (hd : o.dst = some d) (hn : Nat.blt d n = true) (hg : guardOk all ρ o true = true) (h : JL P E n all rest Q ((d, v) :: ρ) L) : JL P E n all (o :: rest) Q ρ L :=
  L_o hd hn hg (hq.jop h)
theorem L_s (hd : o.dst = none) (hg : guardOk all ρ o true = true) (h : JOp P E n o (fun _ L' => JL P E n all rest Q ρ L') ρ L) : JL P E n all (o :: rest) Q ρ L := by
  rcases guardOk_t hg with h1 | ⟨g, b, e, h1, h2, h3⟩
  · exact JL_o (by rw [hd]; rfl) h1 (by rw [hd]; exact h)
  · exact JL_oy (by rw [hd]; rfl) h1 h2 h3 (by rw [hd]; exact h)
theorem L_n {d : Tmp} (hd : o.dst = some d) (hn : Nat.blt d n = true) (hg : guardOk all ρ o false = true) (h : JL P E n all rest Q ((d, undef) :: ρ) L) : JL P E n all (o :: rest) Q ρ L := by
  obtain ⟨g, b, e, u, h1, h2, h3, h4⟩ := guardOk_f hg
  exact JL_n (by rw [hd]; exact hn) h1 h2 h3 h4 (by rw [hd]; exact h)
theorem L_ns (hd : o.dst = none) (hg : guardOk all ρ o false = true) (h : JL P E n all rest Q ρ L) : JL P E n all (o :: rest) Q ρ L := by
  obtain ⟨g, b, e, u, h1, h2, h3, h4⟩ := guardOk_f hg
  exact JL_n (by rw [hd]; rfl) h1 h2 h3 h4 (by rw [hd]; exact h)
/-- The guard that stands next, parted. -/
theorem L_split {t : Tmp} {b : Bool} (_ : guardSlot all o = some t) (ht : ρ.get t = some (.bool b)) (h1 : b = true → JL P E n all (o :: rest) Q ((t, .bool true) :: ρ) L) (h2 : b = false → JL P E n all (o :: rest) Q ((t, .bool false) :: ρ) L) : JL P E n all (o :: rest) Q ρ L := JL_split t ht h1 h2
theorem L_splitD {t : Tmp} {p : Prop} {dec : Decidable p} (_ : guardSlot all o = some t) (ht : ρ.get t = some (.bool (@decide p dec))) (h1 : p → JL P E n all (o :: rest) Q ((t, .bool true) :: ρ) L) (h2 : ¬ p → JL P E n all (o :: rest) Q ((t, .bool false) :: ρ) L) : JL P E n all (o :: rest) Q ρ L := JL_splitD t ht h1 h2
end

/-! ### Specifications -/
/-- Called with these values where the chunks pre hold: it returns, and K tells of what, and of the chunks behind it. All else is as it was. -/
def Does (P : Program) (E : World) (f : Nat) (args : List Value) (pre : List HProp) (K : Value → List HProp → Prop) : Prop :=
  ∀ (F : HProp) (w : World), Sat E w (pre ++ [F]) → Calls P f args.toArray w fun e w' => ∃ v L', e = .returned v ∧ K v L' ∧ Sat E w' (L' ++ [F])

theorem Does.mono {P : Program} {E : World} {f : Nat} {args : List Value} {pre : List HProp} {K K' : Value → List HProp → Prop} (h : Does P E f args pre K) (hk : ∀ v L, K v L → K' v L) : Does P E f args pre K' := fun F w hs =>
  (h F w hs).mono fun _ _ ⟨v, L', he, hK, hs'⟩ => ⟨v, L', he, hk _ _ hK, hs'⟩
theorem Does.ent {P : Program} {E : World} {f : Nat} {args : List Value} {pre pre' : List HProp} {K : Value → List HProp → Prop} (h : Does P E f args pre K) (he : ∀ (F : HProp) (w : World), Sat E w (pre' ++ [F]) → Sat E w (pre ++ [F])) : Does P E f args pre' K := fun F w hs => h F w (he F w hs)

def stars (R : List HProp) : HProp := fun E h => ∃ fr : Nat → Frag, (∀ (i : Nat) (c : HProp), R[i]? = some c → c E (fr i)) ∧ (∀ i, i < R.length → Frag.Le (fr i) h) ∧ (∀ i j, i < R.length → j < R.length → i ≠ j → Frag.Disj (fr i) (fr j))

theorem Sat.rot {E w : World} {A B : List HProp} (h : Sat E w (A ++ B)) : Sat E w (B ++ A) := by
  obtain ⟨fr, f1, f2, f3⟩ := h.own
  refine ⟨h.os, h.tape, h.output, h.size, h.old, fun i => if i < B.length then fr (i + A.length) else fr (i - B.length), ?_, ?_, ?_⟩
  · intro i c hc
    by_cases e : i < B.length
    · simp only [e, if_true]; rw [List.getElem?_append_left e] at hc
      exact f1 _ c (by rw [List.getElem?_append_right (by omega)]; simpa using hc)
    · simp only [e, if_false]; rw [List.getElem?_append_right (by omega)] at hc
      exact f1 _ c (by rw [List.getElem?_append_left (List.getElem?_eq_some_iff.1 hc).1]; exact hc)
  · intro i hi
    rw [List.length_append] at hi
    by_cases e : i < B.length
    · simp only [e, if_true]; exact f2 _ (by rw [List.length_append]; omega)
    · simp only [e, if_false]; exact f2 _ (by rw [List.length_append]; omega)
  · intro i j hi hj hne
    rw [List.length_append] at hi hj
    by_cases e : i < B.length <;> by_cases e' : j < B.length <;> simp only [e, e', if_true, if_false]
    all_goals exact f3 _ _ (by rw [List.length_append]; omega) (by rw [List.length_append]; omega) (by omega)

theorem Sat.fold {E w : World} {A R : List HProp} (h : Sat E w (A ++ R)) : Sat E w (A ++ [stars R]) :=
  (h.rot.join (c := stars R) fun fr h1 h2 _ hg => ⟨fr, h1, hg, h2⟩ : Sat E w (stars R :: A)) |> fun h => Sat.rot (A := [stars R]) h
theorem Sat.unfold {E w : World} {A R : List HProp} (h : Sat E w (A ++ [stars R])) : Sat E w (A ++ R) :=
  Sat.rot (A := R) (B := A) (Sat.head (L := R) (R := A) (c := stars R) (by simpa using h.rot) fun g hg => hg)

/-- There is such a function, with a body. -/
class HasFn (P : Program) (f : Nat) : Prop where
  h : ∃ fn, P.funcs[f]? = some fn ∧ fn.body.isNone = false ∧ (fn.name == "runtime.NumGoroutine") = false

section
variable {P : Program} {E : World} {n : Nat} {ρ : Env} {L : List HProp} {dst : Option Tmp} {ty : TypeId} {pos : String} {after : Array Edge} {g : Option (Nat × Bool)}

theorem run_callFunc {f : Nat} (h : HasFn P f) (args : Array Value) (w : World) : (callFunc f args).run P w = .ok (.enter f args) w := by
  obtain ⟨fn, h1, h2, h3⟩ := h.h
  simp only [callFunc, Sem.run_bind, run_program, Result.andThen_ok, h1, h3, h2, Bool.false_eq_true, if_false, Sem.run_pure]

/-- A call: idx are the chunks that it takes, in the order of its specification; ridx the others. -/
theorem O_call {f : Nat} {xs : List Operand} {ts : Array TypeId} {vs : List Value} {K K' : Value → List HProp → Prop} {pre R : List HProp} (idx ridx : List Nat) [hf : HasFn P f] (hc : Does P E f vs pre K') (hx : ρ.evs xs = some vs)
    (hi : okIdx L.length (idx ++ ridx) = true) [hp : NormL (pick idx L) pre] [hR : NormL (pick ridx L) R]
    (hK : ∀ v L', K' v L' → K v (L' ++ R)) : JOp P E n ⟨dst, .call ⟨.value (.func f), xs.toArray, ts⟩, ty, pos, after, g⟩ K ρ L := fun a w ha hs next Q hn => by
  have h1 : Sat E w (pre ++ R) := by
    rw [← hp.h, ← hR.h]
    have := hs.pick _ hi
    rw [SL.pick, List.map_append] at this
    exact this
  have h2 := hc (stars R) w h1.fold
  unfold Oper.wp
  simp only [execOp, resolve]
  have e1 : (xs.toArray.map a.eval) = vs.toArray := by simp [← ha.evs hx]
  have e2 : a.eval (.func f) = .func (.func f) #[] #[] := rfl
  simp only [e1, e2, Deferred.ofValue, run_bind_pure, invoke, Array.empty_append, Array.append_empty]
  rw [run_callFunc hf]
  simp only [Oper.upon_enter]
  refine h2.mono ?_
  rintro e w' ⟨v, L', rfl, hk, hs'⟩
  exact hn v _ w' (hK v L' hk) hs'.unfold

/-- A call of a function value that is known. -/
theorem O_dyn {f : Nat} {x : Operand} {xs : List Operand} {ts : Array TypeId} {vs : List Value} {fs cs : Array Value} {args : List Value} {K K' : Value → List HProp → Prop} {pre R : List HProp} (idx ridx : List Nat) [hf : HasFn P f] (hxf : ρ.ev x = some (.func (.func f) fs cs)) (hx : ρ.evs xs = some vs) (hargs : fs ++ vs.toArray ++ cs = args.toArray)
    (hc : Does P E f args pre K')
    (hi : okIdx L.length (idx ++ ridx) = true) [hp : NormL (pick idx L) pre] [hR : NormL (pick ridx L) R]
    (hK : ∀ v L', K' v L' → K v (L' ++ R)) : JOp P E n ⟨dst, .call ⟨.value x, xs.toArray, ts⟩, ty, pos, after, g⟩ K ρ L := fun a w ha hs next Q hn => by
  have h1 : Sat E w (pre ++ R) := by
    rw [← hp.h, ← hR.h]
    have := hs.pick _ hi
    rw [SL.pick, List.map_append] at this
    exact this
  have h2 := hc (stars R) w h1.fold
  unfold Oper.wp
  simp only [execOp, resolve]
  have e1 : (xs.toArray.map a.eval) = vs.toArray := by simp [← ha.evs hx]
  simp only [e1, ha.ev hxf, Deferred.ofValue, run_bind_pure, invoke]
  rw [hargs, run_callFunc hf]
  simp only [Oper.upon_enter]
  refine h2.mono ?_
  rintro e w' ⟨v, L', rfl, hk, hs'⟩
  exact hn v _ w' (hK v L' hk) hs'.unfold
end

/-! ### What a function hands back -/
def rvSem (tmps : Array Value) : ResultVar → Sem Value
  | .tmp t => pure (tmps.getD t undef)
  | .cell x t => do loadVar t (← asAddr (tmps.getD x undef))
theorem results_eq (fn : Func) (tmps : Array Value) : results fn tmps = (do
    let vs ← fn.results.mapM (rvSem tmps)
    pure (if h : vs.size = 1 then vs[0] else .tuple vs)) := by
  unfold results
  congr 1
/-- One result. -/
def RV (P : Program) (E : World) (n : Nat) (r : ResultVar) (ρ : Env) (L : List HProp) (v : Value) : Prop := ∀ a w, Agrees a n ρ → Sat E w L →
  (rvSem a.tmps r).run P w = .ok v w
theorem RV_tmp {P : Program} {E : World} {n t : Nat} {ρ : Env} {L : List HProp} {v : Value} (h : ρ.get t = some v) : RV P E n (.tmp t) ρ L v := fun a w ha _ => by
  simp [rvSem, (ha.get t v h).2]
theorem RV_cell {P : Program} {E : World} {n x t b tb sz by_ : Nat} {z : Value} {ρ : Env} {L : List HProp} {cs : List Value} {d : TypeDesc} (i : Nat) [u : TyU P t d] [k : TyI P t sz z by_] (h : ρ.get x = some (.pointer (some ⟨b, 0, none⟩))) (hi : L[i]? = some (cel b cs tb)) (hd : isAggD d = true) (hl : cs.length = sz) :
    RV P E n (.cell x t) ρ L (.agg cs.toArray) := fun a w ha hs => by
  obtain ⟨r, hr, hsz, _⟩ := k.get
  have h1 : (loadCells ⟨b, 0, none⟩ sz).run P w = .ok cs.toArray w := run_cells _ _ (fun j u hu => by rw [addr_add, Nat.zero_add]; exact hs.cel_cell hi j u hu) _ hl.symm
  simp [rvSem, (ha.get x _ h).2, asAddr, loadVar, run_isAgg u.h, hd, sizeOf, typeInfo, hr, hsz, h1]

inductive RVs (P : Program) (E : World) (n : Nat) (ρ : Env) (L : List HProp) : List ResultVar → List Value → Prop where
  | nil : RVs P E n ρ L [] []
  | cons {r : ResultVar} {v : Value} {rs : List ResultVar} {vs : List Value} (h : RV P E n r ρ L v) (t : RVs P E n ρ L rs vs) : RVs P E n ρ L (r :: rs) (v :: vs)
def oneOf : List Value → Value
  | [v] => v
  | vs => .tuple vs.toArray

theorem RVs.run {P : Program} {E : World} {n : Nat} {ρ : Env} {L : List HProp} {rs : List ResultVar} {vs : List Value} (h : RVs P E n ρ L rs vs) (fn : Func) (hf : fn.results = rs.toArray) (a : Act) (w : World) (ha : Agrees a n ρ) (hs : Sat E w L) : (results fn a.tmps).run P w = .ok (oneOf vs) w := by
  have key : ∀ {rs : List ResultVar} {vs : List Value}, RVs P E n ρ L rs vs → ∀ acc : List Value, (rs.foldlM (m := Sem) (fun (acc : Array Value) r => do
      let v ← rvSem a.tmps r
      pure (acc.push v)) acc.toArray).run P w = .ok (acc ++ vs).toArray w := by
    intro rs vs h
    induction h with
    | nil => intro acc; simp
    | @cons r v rs vs hr _ ih =>
      intro acc
      simp only [List.foldlM_cons, Sem.run_bind, hr a w ha hs, Result.andThen_ok, Sem.run_pure]
      have := ih (acc ++ [v])
      simp only [List.push_toArray]
      rw [this]
      simp
  have := key h []
  simp only [List.nil_append] at this
  rw [results_eq, hf, Array.mapM_eq_foldlM, Sem.run_bind]
  have e : (Array.foldlM (m := Sem) (fun (acc : Array Value) r => do
      let v ← rvSem a.tmps r
      pure (acc.push v)) #[] rs.toArray).run P w = .ok vs.toArray w := by
    rw [List.foldlM_toArray]
    exact this
  simp only [bind_pure_comp] at e ⊢
  rw [e]
  simp only [Result.andThen_ok, Sem.run_pure]
  congr 1
  match vs with
  | [] => rfl
  | [v] => rfl
  | v :: w :: r => simp [oneOf]

def retQ (P : Program) (E : World) (n : Nat) (rs : List ResultVar) (K : Value → List HProp → Prop) (F : HProp) : Post
  | .normal, ρ, L | .ret, ρ, L => ∃ vs L', RVs P E n ρ L rs vs ∧ K (oneOf vs) L' ∧ Ent L (L' ++ [F])
  | _, _, _ => False

theorem retQ_ret {P : Program} {E : World} {n : Nat} {rs : List ResultVar} {K : Value → List HProp → Prop} {F : HProp} {ρ : Env} {L : List HProp} (vs : List Value) (L' : List HProp) (h1 : RVs P E n ρ L rs vs) (h2 : K (oneOf vs) L') (h3 : Ent L (L' ++ [F])) : retQ P E n rs K F .ret ρ L := ⟨vs, L', h1, h2, h3⟩
theorem retQ_normal {P : Program} {E : World} {n : Nat} {rs : List ResultVar} {K : Value → List HProp → Prop} {F : HProp} {ρ : Env} {L : List HProp} (vs : List Value) (L' : List HProp) (h1 : RVs P E n ρ L rs vs) (h2 : K (oneOf vs) L') (h3 : Ent L (L' ++ [F])) : retQ P E n rs K F .normal ρ L := ⟨vs, L', h1, h2, h3⟩

def argEnv : Nat → List Value → Env
  | _, [] => []
  | i, v :: r => (i, v) :: argEnv (i + 1) r

theorem argEnv_get : ∀ (vs : List Value) (i t : Nat) (v : Value), Env.get (argEnv i vs) t = some v → i ≤ t ∧ vs[t - i]? = some v
  | [], i, t, v, h => by simp [argEnv, Env.get] at h
  | u :: r, i, t, v, h => by
    simp only [argEnv, Env.get] at h
    cases e : Nat.beq i t with
    | true => rw [e] at h; simp only [cond_true, Option.some.injEq] at h; subst h; rw [← Nat.eq_of_beq_eq_true e]; simp
    | false =>
      rw [e] at h
      have hne := Nat.ne_of_beq_eq_false e
      obtain ⟨h1, h2⟩ := argEnv_get r (i + 1) t v h
      exact ⟨by omega, by rw [show t - i = (t - (i + 1)) + 1 by omega]; simpa using h2⟩

/-- A function, by a walk of its body. -/
theorem Does.of {P : Program} {E : World} {f n : Nat} {fn : Func} {c : Code} {args : List Value} {pre : List HProp} {K : Value → List HProp → Prop} {rs : List ResultVar} (hf : P.funcs[f]? = some fn) (hb : fn.body = some c) (hn : fn.ntmps = n) (hr : fn.results = rs.toArray) (hl : Nat.ble args.length n = true)
    (h : ∀ F, J P E n c (retQ P E n rs K F) (argEnv 0 args) (pre ++ [F])) : Does P E f args pre K := fun F w hs => by
  have hl := Nat.le_of_ble_eq_true hl
  refine calls_of_wp hf hb ?_
  have ha : Agrees { tmps := args.toArray ++ Array.replicate (fn.ntmps - args.toArray.size) undef, defers := [] } n (argEnv 0 args) := by
    refine ⟨rfl, by simp [hn]; omega, fun t v hv => ?_⟩
    obtain ⟨_, h2⟩ := argEnv_get args 0 t v hv
    have hlt := (List.getElem?_eq_some_iff.1 h2).1
    refine ⟨by omega, ?_⟩
    simp only [Nat.sub_zero] at h2 hlt
    rw [List.getElem?_eq_getElem hlt] at h2
    simp [Array.getD_eq_getD_getElem?, Array.getElem?_append, hlt]
    exact Option.some.inj h2
  refine wp_mono (h F _ w ha hs) fun e a' w' ⟨ρ', L', hQ, ha', hs'⟩ => ?_
  cases e with
  | normal =>
    obtain ⟨vs, L'', h1, h2, h3⟩ := hQ
    exact ⟨ha'.defers, _, h1.run fn hr a' w' ha' hs', _, _, rfl, h2, h3 E w' hs'⟩
  | ret =>
    obtain ⟨vs, L'', h1, h2, h3⟩ := hQ
    exact ⟨ha'.defers, _, h1.run fn hr a' w' ha' hs', _, _, rfl, h2, h3 E w' hs'⟩
  | exit id => exact hQ.elim
  | goto l => exact hQ.elim
  | panic c => exact hQ.elim
  | outgrown => exact hQ.elim
end Go.SL
/- Regions that draw their order, step by step; small words for ends; slices that are written out. -/
set_option autoImplicit false
namespace Go.SL

section
variable {P : Program} {E : World} {n : Nat} {Q : Post} {ρ : Env} {L L' H : List HProp} {o : Oper} {all : List Oper} {quiet : List Nat} {rest : Sched} {i : Nat}
theorem J_drawL {id : Nat} {l : List Oper} (quiet : List Nat) (sched : Sched) (hm : P.follows .mixedOrders = true)
    (hsel : Region.noSelect l.toArray = true) (ho : okSched l.toArray quiet l.toArray.size sched (Array.replicate l.toArray.size false) = true) (hQ : ∀ c ρ L, ¬ Q (.panic c) ρ L)
    (h : JS P E n l quiet Q sched L ρ L) : J P E n (.region id l.toArray true) Q ρ L := J_draw quiet sched L hm hsel ho hQ h
theorem J_drawH {id : Nat} {l : List Oper} {H : List HProp} (idx : List Nat) (quiet : List Nat) (sched : Sched) (hm : P.follows .mixedOrders = true)
    (hsel : Region.noSelect l.toArray = true) (ho : okSched l.toArray quiet l.toArray.size sched (Array.replicate l.toArray.size false) = true) (hQ : ∀ c ρ L, ¬ Q (.panic c) ρ L) [NormL (pick idx L) H]
    (h : JS P E n l quiet Q sched H ρ L) : J P E n (.region id l.toArray true) Q ρ L := J_draw quiet sched H hm hsel ho hQ h
theorem Ent.reN {L L1 L' : List HProp} (idx : List Nat) [g1 : NormL L L1] (hi : okIdx L1.length idx = true) [g : NormL (SL.pick idx L1) L'] : Ent L L' := by rw [g1.h]; exact Ent.re idx hi
theorem Ent.nrm {L L1 : List HProp} [g1 : NormL L L1] : Ent L L1 := by rw [← g1.h]; exact Ent.refl _
theorem S_nil (h : Q .normal ρ L) : JS P E n all quiet Q .done H ρ L := h
theorem S_both {j : Nat} {s : Sched} (h1 : JS P E n all quiet Q (.loud i rest) H ρ L) (h2 : JS P E n all quiet Q (.loud j s) H ρ L) : JS P E n all quiet Q (.both i rest j s) H ρ L := ⟨h1, h2⟩
theorem S_q {d : Tmp} {v : Value} (hH : Ent L H) (ho : all[i]? = some o) (hq : QOp P E n o ρ H v) (hd : o.dst = some d) (hn : Nat.blt d n = true) (hg : guardOk all ρ o true = true) (h : JS P E n all quiet Q rest H ((d, v) :: ρ) L) : JS P E n all quiet Q (.quiet i rest) H ρ L := by
  intro o' ho'
  rw [ho] at ho'
  obtain rfl := Option.some.inj ho'
  refine ⟨v, ?_, by rw [hd]; exact hn, hH, by rw [hd]; exact h⟩
  rcases guardOk_t hg with h1 | ⟨g, b, e, h1, h2, h3⟩
  · rw [h1]; exact hq
  · rw [h1]; exact ⟨e, _, h2, h3, by rw [if_pos (show gbOf (.bool b) = some b from rfl)]; exact hq⟩
theorem S_n {d : Tmp} (hH : Ent L H) (ho : all[i]? = some o) (hd : o.dst = some d) (hn : Nat.blt d n = true) (hg : guardOk all ρ o false = true) (h : JS P E n all quiet Q rest H ((d, undef) :: ρ) L) : JS P E n all quiet Q (.quiet i rest) H ρ L := by
  intro o' ho'
  rw [ho] at ho'
  obtain rfl := Option.some.inj ho'
  refine ⟨undef, ?_, by rw [hd]; exact hn, hH, by rw [hd]; exact h⟩
  obtain ⟨g, b, e, u, h1, h2, h3, h4⟩ := guardOk_f hg
  rw [h1]; exact ⟨e, _, h2, h3, by rw [if_neg h4]⟩
/-- A loud operation. -/
theorem S_o {d : Tmp} (ho : all[i]? = some o) (hd : o.dst = some d) (hn : Nat.blt d n = true) (hg : guardOk all ρ o true = true)
    (h : JOp P E n o (fun v L' => ∃ H', (frOf all.toArray quiet i = true → Ent L' H' ∧ Ent H' H) ∧ JS P E n all quiet Q rest H' ((d, v) :: ρ) L') ρ L) : JS P E n all quiet Q (.loud i rest) H ρ L := by
  intro o' ho'
  rw [ho] at ho'
  obtain rfl := Option.some.inj ho'
  refine ⟨by rw [hd]; exact hn, ?_⟩
  rcases guardOk_t hg with h1 | ⟨g, b, e, h1, h2, h3⟩
  · rw [h1, hd]; exact h
  · rw [h1]; exact ⟨e, _, h2, h3, by rw [if_pos (show gbOf (.bool b) = some b from rfl), hd]; exact h⟩
theorem S_s (ho : all[i]? = some o) (hd : o.dst = none) (hg : guardOk all ρ o true = true)
    (h : JOp P E n o (fun _ L' => ∃ H', (frOf all.toArray quiet i = true → Ent L' H' ∧ Ent H' H) ∧ JS P E n all quiet Q rest H' ρ L') ρ L) : JS P E n all quiet Q (.loud i rest) H ρ L := by
  intro o' ho'
  rw [ho] at ho'
  obtain rfl := Option.some.inj ho'
  refine ⟨by rw [hd]; rfl, ?_⟩
  rcases guardOk_t hg with h1 | ⟨g, b, e, h1, h2, h3⟩
  · rw [h1, hd]; exact h
  · rw [h1]; exact ⟨e, _, h2, h3, by rw [if_pos (show gbOf (.bool b) = some b from rfl), hd]; exact h⟩
theorem S_no {d : Tmp} (ho : all[i]? = some o) (hd : o.dst = some d) (hn : Nat.blt d n = true) (hg : guardOk all ρ o false = true) (hf : frOf all.toArray quiet i = true → Ent L H)
    (h : JS P E n all quiet Q rest H ((d, undef) :: ρ) L) : JS P E n all quiet Q (.loud i rest) H ρ L := by
  intro o' ho'
  rw [ho] at ho'
  obtain rfl := Option.some.inj ho'
  refine ⟨by rw [hd]; exact hn, ?_⟩
  obtain ⟨g, b, e, u, h1, h2, h3, h4⟩ := guardOk_f hg
  rw [h1]; exact ⟨e, _, h2, h3, by rw [if_neg h4, hd]; exact ⟨H, fun hx => ⟨hf hx, fun _ _ h => h⟩, h⟩⟩
theorem JS.norm [g : NormL L L'] (h : JS P E n all quiet Q rest H ρ L') : JS P E n all quiet Q rest H ρ L := by rw [g.h]; exact h
/-- Nothing is quiet behind it. -/
theorem free_no {p : Prop} (h : frOf all.toArray quiet i = false) : frOf all.toArray quiet i = true → p := fun h' => by rw [h] at h'; cases h'
theorem retQ_noP {rs : List ResultVar} {K : Value → List HProp → Prop} {F : HProp} : ∀ c ρ L, ¬ retQ P E n rs K F (.panic c) ρ L := fun _ _ _ h => h
theorem seqQ_noP {c : Code} (h : ∀ c ρ L, ¬ Q (.panic c) ρ L) : ∀ d ρ L, ¬ seqQ P E n c Q (.panic d) ρ L := fun d ρ L h' => h d ρ L h'
theorem blockQ_noP {id : Nat} (h : ∀ c ρ L, ¬ Q (.panic c) ρ L) : ∀ d ρ L, ¬ blockQ id Q (.panic d) ρ L := fun d ρ L h' => h d ρ L h'
theorem loopQ_noP {ι : Type} {I : ι → Prop} {env : ι → Env} {res : ι → List HProp} {μ : ι → Nat} {k : ι} (h : ∀ c ρ L, ¬ Q (.panic c) ρ L) : ∀ d ρ L, ¬ loopQ I env res μ k Q (.panic d) ρ L := fun d ρ L h' => h d ρ L h'
theorem Ent.mk {L L' : List HProp} (h : ∀ E w, Sat E w L → Sat E w L') : Ent L L' := h
theorem Ent.sub {α : Type} {τ : Ty α} {full : Bool} {S : SV} {l : List α} {L L' : List HProp} (i lo hi : Nat) (hL : L[i]? = some (slc τ full S l)) (h1 : lo ≤ hi) (h2 : hi ≤ l.length) [g : NormL (L.set i (slc τ full (S.sub τ.sz lo hi) ((l.take hi).drop lo))) L'] : Ent L L' := fun _ _ h => by
  rw [← g.h]; exact h.sub_at i hL lo hi h1 h2
theorem Ent.sat {L L' : List HProp} (h : Ent L L') {w : World} (hs : Sat E w L) : Sat E w L' := h E w hs
end

/-! ### Slices written out -/
section
variable {α : Type} {τ : Ty α} {P : Program} {E : World} {n : Nat} {ρ : Env} {L : List HProp} {dst : Option Tmp} {ty : TypeId} {pos : String} {after : Array Edge} {g : Option (Nat × Bool)}

/-- How the parts of a struct or an array lie. -/
class Places (P : Program) (t : Nat) (pl : outParam (List (Nat × Nat))) (zero : outParam (List Value)) : Prop where
  h : ∀ (w : World) (parts : Array (Nat × Value)) (cs : Array Value), Instr.fill (pl.toArray[·]?) zero.toArray parts.toList = some cs → (Instr.build t parts).run P w = .ok (.agg cs) w
theorem Places.of {t sz by_ : Nat} {z : Value} {fs : Array Field} {pl : List (Nat × Nat)} {zero : List Value} (u : P.underlying t = some (.struct fs)) (v : TyI P t sz z by_) (hz : z.cells = zero.toArray)
    (hp : ∀ w, (fs.mapM (m := Sem) fun f => do pure (f.offset, ← sizeOf f.type)).run P w = .ok pl.toArray w) : Places P t pl zero := ⟨fun w parts cs h => by
  obtain ⟨i, hi, _, hz', _⟩ := v.get
  simp only [Instr.build, Sem.run_bind, zeroValue, typeInfo, run_program, Result.andThen_ok, hi, hz', Sem.run_pure, run_underlying u, hp, hz, h]⟩
def partsOf (ρ : Env) : List (Nat × Operand) → Option (List (Nat × Value))
  | [] => some []
  | (i, x) :: r => match ρ.ev x, partsOf ρ r with
    | some v, some vs => some ((i, v) :: vs)
    | _, _ => none
theorem partsOf_eq {a : Act} (ha : Agrees a n ρ) : ∀ {ps : List (Nat × Operand)} {vs : List (Nat × Value)}, partsOf ρ ps = some vs → (ps.map fun (i, x) => (i, a.eval x)) = vs
  | [], vs, h => by simp only [partsOf, Option.some.injEq] at h; subst h; rfl
  | (i, x) :: r, vs, h => by
    simp only [partsOf] at h
    split at h
    · rename_i v vs' h1 h2
      simp only [Option.some.injEq] at h; subst h
      simp [ha.ev h1, partsOf_eq ha h2]
    · cases h
theorem foldl_set (cs : List Value) : ∀ (vs : List Value) (o k : Nat), o + k + vs.length ≤ cs.length →
    (vs.toArray.zipIdx k).foldl (fun (a : Array Value) (x : Value × Nat) => a.setIfInBounds (o + x.2) x.1) cs.toArray = (cs.take (o + k) ++ vs ++ cs.drop (o + k + vs.length)).toArray
  | vs, o, k, h => by
    induction vs generalizing k cs with
    | nil =>
      have e : (([] : List Value).toArray.zipIdx k) = #[] := by apply Array.ext'; simp
      rw [e]; simp
    | cons v vs ih =>
      simp only [List.length_cons] at h
      have e : ((v :: vs).toArray.zipIdx k) = #[(v, k)] ++ (vs.toArray.zipIdx (k + 1)) := by
        apply Array.ext'
        simp
      rw [e, Array.foldl_append]
      simp only [List.size_toArray, List.length_cons, List.length_nil, Nat.zero_add, List.foldl_toArray', List.foldl_cons, List.foldl_nil]
      have := ih (cs.set (o + k) v) (k + 1) (by rw [List.length_set]; omega)
      simp only [List.setIfInBounds_toArray] at this ⊢
      rw [this, show o + (k + 1) + vs.length = o + k + (vs.length + 1) by omega, show o + (k + 1) = (o + k) + 1 by omega, take_set_succ cs (o + k) v (by omega), drop_set_lt cs (o + k) _ v (by omega)]
      simp only [List.append_assoc, List.cons_append, List.nil_append]

theorem run_fill (sz : Nat) : ∀ (vs : List Value) (k : Nat) (cs : List Value), (∀ v ∈ vs, v.cells.size = sz) → k * sz + vs.length * sz ≤ cs.length →
    Instr.fill (fun i => some (i * sz, sz)) cs.toArray ((vs.zipIdx k).map fun (v, i) => (i, v)) = some (cs.take (k * sz) ++ (vs.flatMap fun v => v.cells.toList) ++ cs.drop (k * sz + vs.length * sz)).toArray
  | [], k, cs, _, _ => by simp [Instr.fill]
  | v :: vs, k, cs, h1, h2 => by
    have hv := h1 v (by simp)
    simp only [List.length_cons, Nat.add_mul, Nat.one_mul] at h2
    have hl : v.cells.toList.length = sz := by simpa using hv
    simp only [List.zipIdx_cons, List.map_cons, Instr.fill]
    have hc : (v.cells.size ≠ sz || k * sz + v.cells.size > cs.toArray.size) = false := by
      simp [hv]; omega
    rw [hc]
    simp only [Bool.false_eq_true, if_false]
    have hf := foldl_set cs v.cells.toList (k * sz) 0 (by omega)
    simp only [Nat.add_zero, Array.toArray_toList] at hf
    have hf' : (v.cells.zipIdx.foldl (fun (a : Array Value) (x : Value × Nat) => a.setIfInBounds (k * sz + x.2) x.1) cs.toArray) = (cs.take (k * sz) ++ v.cells.toList ++ cs.drop (k * sz + v.cells.toList.length)).toArray := hf
    have hf2 : Array.foldl (fun (cs : Array Value) x => match x with | (c, j) => cs.setIfInBounds (k * sz + j) c) cs.toArray v.cells.zipIdx = (cs.take (k * sz) ++ v.cells.toList ++ cs.drop (k * sz + v.cells.toList.length)).toArray := hf'
    rw [hf2, run_fill sz vs (k + 1) _ (fun u hu => h1 u (by simp [hu])) (by simp [Nat.add_mul]; omega)]
    congr 2
    have e1 : (cs.take (k * sz) ++ v.cells.toList).length = (k + 1) * sz := by simp [Nat.add_mul]; omega
    rw [List.take_left' e1, List.drop_append, e1, List.drop_of_length_le (by rw [e1]; omega), List.nil_append, show (k + 1) * sz + vs.length * sz - (k + 1) * sz = vs.length * sz by omega, List.drop_drop]
    simp only [List.flatMap_cons, List.length_cons, List.append_assoc]
    congr 4
    rw [hl, Nat.add_mul]
    omega

/-- Cells laid over others, written out. -/
class SpliceL (cs : List Value) (o : Nat) (vs : List Value) (cs' : outParam (List Value)) : Prop where
  h : cs.take o ++ vs ++ cs.drop (o + vs.length) = cs'
  le : o + vs.length ≤ cs.length
instance (l : List Value) : SpliceL l 0 [] l := ⟨by simp, by simp⟩
instance (a v : Value) (l vs l' : List Value) [g : SpliceL l 0 vs l'] : SpliceL (a :: l) 0 (v :: vs) (v :: l') := ⟨by have := g.h; simp at this; simp [this], by have := g.le; simp at this ⊢; omega⟩
instance (a : Value) (o : Nat) (l vs l' : List Value) [g : SpliceL l o vs l'] : SpliceL (a :: l) (o + 1) vs (a :: l') := ⟨by rw [← g.h, show o + 1 + vs.length = (o + vs.length) + 1 by omega]; simp, by have := g.le; simp; omega⟩
class FillL (pl : List (Nat × Nat)) (cs : List Value) (vs : List (Nat × Value)) (cs' : outParam (List Value)) : Prop where
  h : Instr.fill (pl.toArray[·]?) cs.toArray vs = some cs'.toArray
instance (pl : List (Nat × Nat)) (cs : List Value) : FillL pl cs [] cs := ⟨rfl⟩
class PlAt (pl : List (Nat × Nat)) (i : Nat) (o : outParam Nat) (s : outParam Nat) : Prop where
  h : pl[i]? = some (o, s)
instance (o s : Nat) (l : List (Nat × Nat)) : PlAt ((o, s) :: l) 0 o s := ⟨rfl⟩
instance (o s i : Nat) (p : Nat × Nat) (l : List (Nat × Nat)) [g : PlAt l i o s] : PlAt (p :: l) (i + 1) o s := ⟨by simpa using g.h⟩
instance (pl : List (Nat × Nat)) (cs cs1 cs2 vcs : List Value) (i o s : Nat) (v : Value) (r : List (Nat × Value)) [p : PlAt pl i o s] [cv : CellsL v vcs] [lv : LenL vcs s] [sp : SpliceL cs o vcs cs1] [f : FillL pl cs1 r cs2] : FillL pl cs ((i, v) :: r) cs2 := ⟨by
  have hp : pl.toArray[i]? = some (o, s) := by simpa using p.h
  have hsz : v.cells.size = s := by rw [← lv.h, ← cv.h]; simp
  have hle := sp.le
  rw [lv.h] at hle
  simp only [Instr.fill, hp]
  have hc : (v.cells.size ≠ s || o + v.cells.size > cs.toArray.size) = false := by simp [hsz]; omega
  rw [hc]
  simp only [Bool.false_eq_true, if_false]
  have hf := foldl_set cs v.cells.toList o 0 (by rw [cv.h]; have := sp.le; omega)
  simp only [Nat.add_zero, Array.toArray_toList] at hf
  have hf2 : Array.foldl (fun (cs : Array Value) x => match x with | (c, j) => cs.setIfInBounds (o + j) c) cs.toArray v.cells.zipIdx = (cs.take o ++ v.cells.toList ++ cs.drop (o + v.cells.toList.length)).toArray := hf
  rw [hf2, cv.h, sp.h]
  exact f.h⟩
theorem Q_build {t : Nat} {ps : List (Nat × Operand)} {vs : List (Nat × Value)} {cs zero : List Value} {pl : List (Nat × Nat)} [b : Places P t pl zero] (hx : partsOf ρ ps = some vs) [hc : FillL pl zero vs cs] :
    QOp P E n ⟨dst, .build t ps.toArray, ty, pos, after, g⟩ ρ L (.agg cs.toArray) := fun a w ha hs => by
  have e : (ps.toArray.map fun (i, x) => (i, a.eval x)) = vs.toArray := by rw [← partsOf_eq ha hx]; simp
  simp only [execOp]
  rw [e]
  simp [b.h w vs.toArray cs.toArray (by simpa using hc.h)]

/-- a slice of values -/
theorem O_lit {K : Value → List HProp → Prop} {t sz by_ : Nat} {z : Value} {xs : List Operand} {m : Nat} {vs : List Value} (l : List α) [u : TyU P t (.slice τ.e)] [v : TyI P τ.e sz z by_] (hx : ρ.evs xs = some vs) (hm : m = vs.length) (hsz : sz = τ.sz) (hz : z.cells.size = sz)
    (hl : vs.map (fun v => v.cells.toList) = l.map τ.enc) (h24 : m * sz ≤ 16777216) (hK : ∀ S, K (SV.v S) (slc τ true S l :: L)) : JOp P E n ⟨dst, .buildSlice t m (xs.zipIdx.map fun (x, i) => (i, x)).toArray, ty, pos, after, g⟩ K ρ L := fun a w ha hs next Q hn => by
  obtain ⟨r, hr, hrs, hrz, hrb⟩ := v.get
  have hlen : vs.length = l.length := by have := congrArg List.length hl; simpa using this
  have hcells : ∀ u ∈ vs, u.cells.size = sz := fun u hu => by
    have h1 : u.cells.toList ∈ l.map τ.enc := by rw [← hl]; exact List.mem_map_of_mem hu
    obtain ⟨b, _, hb⟩ := List.mem_map.1 h1
    have := τ.len b
    rw [hb] at this
    rw [hsz]; simpa using this
  have hflat : (vs.flatMap fun v => v.cells.toList) = τ.flat l := by
    have h1 : (vs.map (fun v => v.cells.toList)).flatten = (l.map τ.enc).flatten := by rw [hl]
    simpa [List.flatMap, Ty.flat] using h1
  let C : List Value := (Array.range (m * sz)).toList.map (z.cells[· % z.cells.size]!)
  have hC : C.length = m * sz := by simp [C]
  have hfill := run_fill sz vs 0 C hcells (by rw [hC, hm]; omega)
  rw [hflat] at hfill
  simp only [Nat.zero_mul, List.take_zero, List.nil_append, Nat.zero_add] at hfill
  rw [List.drop_of_length_le (by rw [hC, hm]; omega), List.append_nil] at hfill
  have hrun : (Instr.buildSlice t m ((xs.zipIdx.map fun (x, i) => (i, x)).toArray.map fun (i, x) => (i, a.eval x))).run P w = .ok (.slice (some ⟨w.heap.size, 0, none⟩) m m) (w.alloc (.cells (τ.flat l).toArray τ.e)) := by
    have e1 : ((xs.zipIdx.map fun (x, i) => (i, x)).toArray.map fun (i, x) => (i, a.eval x)) = ((vs.zipIdx 0).map fun (v, i) => (i, v)).toArray := by
      rw [← ha.evs hx]
      simp [List.zipIdx_map]
    rw [e1]
    simp only [Instr.buildSlice]
    have h24' : ¬ (m * sz > 2 ^ 24) := by omega
    by_cases h0 : m * sz = 0
    · have hm0 : m = 0 := by
        rcases Nat.eq_zero_or_pos m with h | h
        · exact h
        · have := Nat.mul_le_mul_right sz h; have := τ.pos; omega
      have hv0 : vs = [] := List.eq_nil_of_length_eq_zero (by omega)
      have hl0 : l = [] := List.eq_nil_of_length_eq_zero (by omega)
      subst hv0 hl0 hm0
      simp [run_underlying u.h, sizeOf, typeInfo, hr, Instr.fill, newRow, Ty.flat, Array.range_zero']
    · have eC : ((Array.range (m * sz)).map (z.cells[· % z.cells.size]!)) = C.toArray := by
        apply Array.ext'; simp [C]
      simp [run_underlying u.h, sizeOf, typeInfo, zeroValue, hr, hrs, hrz, h0, show ¬ (16777216 < m * sz) by omega]
      rw [eC, hfill]
      simp [newRow]
  have hfl := τ.flat_length l
  have hsat := hs.new_row (τ := τ) (l := l) (c := m) (newed_alloc w (.cells (τ.flat l).toArray τ.e)) (.inl (Nat.le_refl _)) (by omega) (by rw [hfl, hm, hlen]; exact Nat.le_refl _) (by
    rw [List.take_of_length_le (by omega)]) (by have := τ.pos; have h2 : m * 1 ≤ m * sz := Nat.mul_le_mul_left m (by omega); omega)
  unfold Oper.wp
  simp only [execOp]
  simp only [Sem.run_bind, hrun, Result.andThen_ok, Sem.run_pure]
  rw [← hlen, ← hm] at hsat
  exact hn _ _ _ (hK ⟨some ⟨w.heap.size, 0, none⟩, m, m⟩) hsat
end
end Go.SL
/- From the arguments' readings to chunks, and from a specification of a law to its row's contract. -/
set_option autoImplicit false
namespace Go.SL
open Go.ChangeShapes Go.WideShapes Go.Deep Go.RowKit

inductive Leaf where
  | int (k : IntKind)
  | str
  | bool
def LeafOk : Leaf → Value → Prop
  | .int k, v => ∃ n, v = .int k n ∧ (Lit.int k n).wf = true
  | .str, v => ∃ l : List UInt8, v = SL.str l ∧ l.length ≤ maxLen
  | .bool, v => ∃ b, v = .bool b
def LeafsOk : List Leaf → List Value → Prop
  | [], [] => True
  | l :: ls, v :: vs => LeafOk l v ∧ LeafsOk ls vs
  | _, _ => False

/-- The leafs of a type: integers, strings, bools, in structs or not. -/
def fieldLeafs (leafs : Nat → Option (List Leaf)) (size : Nat → Nat) : Nat → List Field → Option (List Leaf)
  | _, [] => some []
  | off, f :: fs => if f.offset = off then match leafs f.type, fieldLeafs leafs size (off + size f.type) fs with
    | some l, some ls => if l.length = size f.type then some (l ++ ls) else none
    | _, _ => none
    else none
def leafsOf (P : Program) : Nat → Nat → Option (List Leaf)
  | 0, _ => none
  | d + 1, t => match P.underlying t with
    | some (.int k) => some [.int k]
    | some .string => some [.str]
    | some .bool => some [.bool]
    | some (.struct fs) => match fieldLeafs (leafsOf P d) P.cellsOf 0 fs.toList with
      | some ls => if ls.length = P.cellsOf t then some ls else none
      | none => none
    | _ => none

theorem LeafsOk.length : ∀ {ls : List Leaf} {vs : List Value}, LeafsOk ls vs → vs.length = ls.length
  | [], [], _ => rfl
  | _ :: _, _ :: _, h => by simp [LeafsOk.length h.2]
  | [], _ :: _, h => h.elim
  | _ :: _, [], h => h.elim
theorem LeafsOk.append : ∀ {ls ls' : List Leaf} {vs vs' : List Value}, LeafsOk ls vs → LeafsOk ls' vs' → LeafsOk (ls ++ ls') (vs ++ vs')
  | [], _, [], _, _, h' => h'
  | _ :: _, _, _ :: _, _, h, h' => ⟨h.1, LeafsOk.append h.2 h'⟩
  | [], _, _ :: _, _, h, _ => h.elim
  | _ :: _, _, [], _, h, _ => h.elim

section
variable {H : Type} {enc : TypeId × Value → H} {P : Program} {w : World} {base : Nat} {spare : Nat → Bool} {held : Bool}

theorem leafs_ok : ∀ (d t : Nat) (ls : List Leaf) (fuel : Nat) (cs : List Value) (x : DataW H × List MemPlace), leafsOf P d t = some ls → DataW.trod enc P w base spare held fuel t cs = some x → LeafsOk ls cs
  | 0, _, _, _, _, _, h, _ => by simp [leafsOf] at h
  | d + 1, t, ls, fuel, cs, x, h, hx => by
    simp only [leafsOf] at h
    split at h
    · rename_i k ht
      obtain ⟨n, rfl, _, hw⟩ := DataW.trod_int ht hx
      simp only [Option.some.injEq] at h; subst h
      exact ⟨⟨n, rfl, hw⟩, trivial⟩
    · rename_i ht
      obtain ⟨s, rfl, _, hw⟩ := DataW.trod_string ht hx
      simp only [Option.some.injEq] at h; subst h
      exact ⟨⟨s.data.toList, by cases s; simp [SL.str], by rw [Array.length_toList]; exact hw⟩, trivial⟩
    · rename_i ht
      obtain ⟨b, rfl, _⟩ := DataW.trod_bool ht hx
      simp only [Option.some.injEq] at h; subst h
      exact ⟨⟨b, rfl⟩, trivial⟩
    · rename_i fs ht
      obtain ⟨xs, n, _, _, hlen, hxl, hf⟩ := DataW.trod_struct ht hx
      have key : ∀ (gs : List Field) (k off : Nat) (ls : List Leaf), fieldLeafs (leafsOf P d) P.cellsOf off gs = some ls → (∀ (i : Nat) f, gs[i]? = some f → fs[k + i]? = some f) → ∃ vs, (cs.drop off).take ls.length = vs ∧ LeafsOk ls vs := by
        intro gs
        induction gs with
        | nil =>
          intro k off ls h _
          simp only [fieldLeafs, Option.some.injEq] at h; subst h
          exact ⟨[], by simp, trivial⟩
        | cons f gs ih =>
          intro k off ls h hg
          simp only [fieldLeafs] at h
          split at h
          · rename_i hoff
            split at h
            · rename_i l ls' hl hls
              split at h
              · rename_i hsz
                simp only [Option.some.injEq] at h; subst h
                have hk : fs[k]? = some f := by simpa using hg 0 f rfl
                have h1 := hf k f hk
                have hkl : k < xs.length := by rw [hxl]; exact (Array.getElem?_eq_some_iff.1 hk).1
                rw [List.getElem?_eq_getElem hkl] at h1
                have h2 := leafs_ok d f.type l n _ _ hl h1
                rw [hoff] at h2
                obtain ⟨vs, hvs, hok⟩ := ih (k + 1) (off + P.cellsOf f.type) ls' hls (fun i f' hi => by have := hg (i + 1) f' (by simpa using hi); rw [show k + 1 + i = k + (i + 1) by omega]; exact this)
                refine ⟨_, rfl, ?_⟩
                rw [List.length_append, List.take_add, List.drop_drop]
                refine LeafsOk.append ?_ ?_
                · rw [hsz]; exact h2
                · rw [hsz, hvs]; exact hok
              · cases h
            · cases h
          · cases h
      split at h
      · rename_i ls' hls
        split at h
        · rename_i hcl
          simp only [Option.some.injEq] at h; subst h
          obtain ⟨vs, hvs, hok⟩ := key fs.toList 0 0 ls' hls (fun i f hi => by simpa using hi)
          rw [List.drop_zero, hcl, ← hlen, List.take_length] at hvs
          rw [hvs]; exact hok
        · cases h
      · cases h
    · cases h

/-- A slice that came in: its elements' cells. -/
theorem rows_ok {d t e : Nat} {ls : List Leaf} {S : SV} {dd : DataW H} {ps : List MemPlace} (ht : P.underlying t = some (.slice e)) (hl : leafsOf P d e = some ls) (hc : P.cellsOf e = ls.length)
    (h : DataW.Trod enc P w base spare held t S.v dd ps) :
    ∃ (rows : List (List Value)), S.n = rows.length ∧ S.n ≤ S.c ∧ S.c ≤ maxLen ∧ (∀ r ∈ rows, LeafsOk ls r) ∧
      ((S.a = none ∧ S.c = 0) ∨ ∃ a, S.a = some a ∧ ∀ (j : Nat) u, rows.flatten[j]? = some u → a.block < w.heap.size ∧ w.cell? (a.add j) = some u) ∧
      (dd = .nil ∨ ∃ el sp, dd = .slice el sp ∧ S.n ≤ el.length) := by
  obtain ⟨fuel, hf⟩ := h
  rcases open_slice ht hf with ⟨hcs, hx⟩ | ⟨a, len, cap, m, n, D, Pl, hcs, hb, hle, hm, hmm, hx, hi⟩
  · simp only [SV.v, Value.cells, List.cons.injEq, Value.slice.injEq, and_true] at hcs
    obtain ⟨h1, h2, h3⟩ := hcs
    exact ⟨[], h2, by omega, by omega, by simp, .inl ⟨h1, h3⟩, .inl (Prod.mk.inj hx).1⟩
  · simp only [SV.v, Value.cells, List.cons.injEq, Value.slice.injEq, and_true] at hcs
    obtain ⟨h1, h2, h3⟩ := hcs
    have hlm : len ≤ m := by rw [hmm]; split <;> omega
    have key : ∀ q, q ≤ len → ∃ rows : List (List Value), rows.length = q ∧ rows.flatten.length = q * ls.length ∧ (∀ r ∈ rows, LeafsOk ls r) ∧ ∀ (j : Nat) u, rows.flatten[j]? = some u → w.cell? (a.add j) = some u := by
      intro q
      induction q with
      | zero => intro _; exact ⟨[], rfl, by simp, by simp, by simp⟩
      | succ q ih =>
        intro hq
        obtain ⟨rows, r1, r2, r3, r4⟩ := ih (by omega)
        obtain ⟨cs', hc', ht'⟩ := hi q (by omega)
        obtain ⟨_, c2, c3⟩ := World.cells?_some hc'
        have hok := leafs_ok d e ls n cs' _ hl ht'
        rw [hc] at c2 c3
        refine ⟨rows ++ [cs'], by simp [r1], ?_, ?_, ?_⟩
        · simp only [List.flatten_append, List.length_append, r2, List.flatten_cons, List.flatten_nil, List.append_nil, c2, Nat.add_mul, Nat.one_mul]
        · intro r hr; rcases List.mem_append.1 hr with hr | hr
          · exact r3 r hr
          · rw [List.mem_singleton.1 hr]; exact hok
        · intro j u hu
          simp only [List.flatten_append, List.flatten_cons, List.flatten_nil, List.append_nil] at hu
          by_cases hj : j < rows.flatten.length
          · rw [List.getElem?_append_left hj] at hu; exact r4 j u hu
          · rw [List.getElem?_append_right (by omega), r2] at hu
            have hlt : j - q * ls.length < ls.length := by have := (List.getElem?_eq_some_iff.1 hu).1; omega
            have h5 := c3 (j - q * ls.length) hlt
            rw [hu, addr_add_add, show q * ls.length + (j - q * ls.length) = j by omega] at h5
            exact h5
    obtain ⟨rows, r1, _, r3, r4⟩ := key len (Nat.le_refl _)
    refine ⟨rows, by rw [h2, r1], by omega, by omega, r3, .inr ⟨a, h1, fun j u hu => ?_⟩, .inr ⟨_, _, (Prod.mk.inj hx).1, by simp [h2]⟩⟩
    have := r4 j u hu
    refine ⟨?_, this⟩
    have hbl := World.block_lt_of_cell? w _ this
    have hb2 : (a.add j).block = a.block := by unfold Addr.add; split <;> rfl
    rwa [hb2] at hbl
end

/-- .. as a chunk that owns nothing, of values of a Lean type. -/
theorem slc_of_rows {α : Type} (τ : Ty α) {E : World} {S : SV} {rows : List (List Value)} {ok : α → Prop} (h1 : S.n = rows.length) (h2 : S.n ≤ S.c)
    (h3 : (S.a = none ∧ S.c = 0) ∨ ∃ a, S.a = some a ∧ ∀ (j : Nat) u, rows.flatten[j]? = some u → a.block < E.heap.size ∧ E.cell? (a.add j) = some u)
    (h4 : ∀ r ∈ rows, ∃ a, r = τ.enc a ∧ ok a) : ∃ l : List α, l.length = S.n ∧ (∀ a ∈ l, ok a) ∧ ∀ g, slc τ false S l E g := by
  have key : ∀ rows : List (List Value), (∀ r ∈ rows, ∃ a, r = τ.enc a ∧ ok a) → ∃ l : List α, rows = l.map τ.enc ∧ ∀ a ∈ l, ok a := by
    intro rows
    induction rows with
    | nil => intro _; exact ⟨[], rfl, by simp⟩
    | cons r rows ih =>
      intro h
      obtain ⟨a, ha, hok⟩ := h r (by simp)
      obtain ⟨l, hl, hl2⟩ := ih (fun r hr => h r (by simp [hr]))
      exact ⟨a :: l, by simp [ha, hl], by intro b hb; rcases List.mem_cons.1 hb with rfl | hb; exact hok; exact hl2 b hb⟩
  obtain ⟨l, hl, hok⟩ := key rows h4
  have hlen : l.length = S.n := by rw [h1, hl]; simp
  have hflat : τ.flat l = rows.flatten := by rw [hl]; simp [Ty.flat, List.flatMap]
  refine ⟨l, hlen, hok, fun g => ⟨hlen.symm, h2, ?_⟩⟩
  rcases h3 with h3 | ⟨a, ha, h3⟩
  · exact .inl h3
  · exact .inr (.inl ⟨a, ha, rfl, by rw [hflat]; exact h3⟩)

/-- A law: from its specification to its row's contract. -/
theorem law_calls {P : Program} {f : Nat} {args : List Value} {pre : List HProp} {W : World} {K : Value → List HProp → Prop} (h : Does P W f args pre K) (hK : ∀ v L, K v L → v = .bool true) (hp : ∀ c ∈ pre, ∀ g, c W g) :
    Calls P f args.toArray W fun e w' => e = .returned (.bool true) ∧ Below W.heap.size W w' := by
  have key : ∀ L : List HProp, (∀ c ∈ L, ∀ g, c W g) → Sat W W L := by
    intro L
    induction L with
    | nil => intro _; exact Sat.start W
    | cons c L ih => intro h; exact (ih fun d hd => h d (by simp [hd])).lay (h c (by simp))
  refine (h emp W (key (pre ++ [emp]) ?_)).mono ?_
  · intro c hc g
    rcases List.mem_append.1 hc with hc | hc
    · exact hp c hc g
    · rw [List.mem_singleton.1 hc]; trivial
  · rintro e w' ⟨v, L', rfl, hk, hs⟩
    rw [hK v L' hk]
    exact ⟨rfl, hs.os, hs.tape, hs.output, hs.size, hs.old⟩
end Go.SL
