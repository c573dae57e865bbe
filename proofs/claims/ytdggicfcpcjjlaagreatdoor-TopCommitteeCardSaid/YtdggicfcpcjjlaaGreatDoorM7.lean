/- Part 7 of the texts below the row: Sl6. -/
import Derived.Test.YtdggicfcpcjjlaaGreatDoorM1
import Derived.Test.YtdggicfcpcjjlaaGreatDoorM6
/- Operations that make or write slices; calls and their specifications. -/
set_option autoImplicit false
namespace Go.SL
section
variable {α : Type} {τ : Ty α} {P : Program} {E : World} {n : Nat} {ρ : Env} {L : List HProp} {dst : Option Tmp} {ty : TypeId} {pos : String} {after : Array Edge} {g : Option (Nat × Bool)}
/-- A new block as an owned slice. -/
theorem Sat.new_row {w w' : World} (h : Sat E w L) {b : Nat} {cs : List Value} {fr : Nat × Nat} {l : List α} {c : Nat} (hn : Newed w w' b (.cells cs.toArray τ.e fr)) (hf : fr.2 ≤ fr.1 ∨ cs.length ≤ fr.1) (hc : l.length ≤ c) (hl : c * τ.sz ≤ cs.length)
 (hcs : cs.take (l.length * τ.sz) = τ.flat l) (hm : c ≤ 9223372036854775807) : Sat E w' (slc τ true ⟨some ⟨b, 0, none⟩, l.length, c⟩ l :: L) :=
 (h.newed hn).weaken fun p hp => ⟨rfl, hc, .inr (.inr ⟨b, 0, rfl, rfl, cs, fr, hp, hf, by simpa using hl, by simpa using hcs, hm⟩)⟩
theorem splice_window (cs : List Value) (o k : Nat) (vs : List Value) (h : o + k + vs.length ≤ cs.length) :
 ((cs.take (o + k) ++ vs ++ cs.drop (o + k + vs.length)).drop o).take (k + vs.length) = (cs.drop o).take k ++ vs := by
 have hA : (cs.take (o + k)).length = o + k := by simp; omega
 rw [List.append_assoc, List.drop_append_of_le_length (by omega), List.drop_take, show o + k - o = k by omega, ← List.append_assoc]
 have hB : ((cs.drop o).take k ++ vs).length = k + vs.length := by simp; omega
 rw [← hB, List.take_left']
 rfl
/-- What an append does: to what is owned by the chunk i, whose first k elements are l. -/
theorem run_append_all {w : World} (hs : Sat E w L) (i : Nat) {t t' ty sz by_ : Nat} {z : Value} {d' : TypeDesc} (ht : P.underlying t = some (.slice τ.e)) (ht' : P.underlying t' = some d') (hd' : (match d' with | .int _ => false | _ => true) = true)
 (hi : TyI P τ.e sz z by_) (hsz : sz = τ.sz) (hz : z.cells.size = sz) (S : SV) (l m : List α) (x : Value)
 (hL : L[i]? = some (slc τ true S l)) (hlen : (Builtin.lenOf x).run P w = .ok m.length w) (hfc : ∀ w', w'.heap = w.heap → (Builtin.firstCells sz m.length x).run P w' = .ok (τ.flat m).toArray w')
 (hb : (l.length + m.length) * by_ ≤ 140737488355328) (hb1 : 1 ≤ by_) :
 ∃ S' w', (Builtin.append_ #[t, t'] ty #[S.v, x]).run P w = .ok (SV.v S') w' ∧ Sat E w' (L.set i (slc τ true S' (l ++ m))) := by
 obtain ⟨r, hr, hrs, hrz, hrb⟩ := hi.get
 obtain ⟨p, ⟨hn, hcap, h⟩, hw⟩ := hs.at hL
 have hneed : (l.length + m.length) ≤ 140737488355328 := Nat.le_trans (Nat.le_mul_of_pos_right _ hb1) hb
 have hzeros : (do let d ← underlying t'; pure (match d with | .int _ => true | _ => false) : Sem Bool).run P w = .ok false w := by
  simp only [Sem.run_bind, run_underlying ht', Result.andThen_ok, Sem.run_pure]
  cases d' <;> simp at hd' ⊢
 have hfit : Builtin.nextslicecap (S.n + m.length) S.c * by_ ≤ 281474976710656 ∨ S.n + m.length ≤ S.c := by
  by_cases hroom : S.n + m.length ≤ S.c
  ·exact .inr hroom
  ·left
   have : Builtin.nextslicecap (S.n + m.length) S.c ≤ 2 * (S.n + m.length) := by
    unfold Builtin.nextslicecap
    split
    ·omega
    ·split
     ·omega
     ·rename_i h1 h2
      have grow : ∀ (rounds c N : Nat), c ≤ 2 * N → 256 ≤ N → (∀ c', c' < N → c' + (c' + 768) / 4 ≤ 2 * N) → Builtin.growBy N rounds c ≤ 2 * N := by
       intro rounds
       induction rounds with
       | zero => intro c N h _ _; exact h
       | succ r ih =>
        intro c N h h2 h3
        unfold Builtin.growBy
        split
        ·exact h
        ·exact ih _ _ (h3 c (by omega)) h2 h3
      exact grow 4 S.c (S.n + m.length) (by omega) (by omega) (by intro c' hc'; omega)
   calc Builtin.nextslicecap (S.n + m.length) S.c * by_ ≤ 2 * (S.n + m.length) * by_ := Nat.mul_le_mul_right _ this
    _ = 2 * ((l.length + m.length) * by_) := by rw [hn, Nat.mul_assoc]
    _ ≤ 281474976710656 := by omega
 have hmatch : ∀ (b : Option Addr), S.a = b → S.v = .slice b S.n S.c := fun b hb => by simp [SV.v, hb]
 have hcellsl : ∀ w', w'.heap = w.heap → (Builtin.firstCells sz S.n S.v).run P w' = .ok (τ.flat l).toArray w' := fun w' hw' => by
  have hR := (hs.rd i hL)
  rcases hR.cells with h0 | ⟨a, ha, hc⟩
  ·have hl0 : S.n = 0 := by
    have := τ.flat_length l
    rw [h0] at this
    have hp := τ.pos
    rcases Nat.eq_zero_or_pos l.length with h | h
    ·omega
    ·have := Nat.mul_le_mul_right τ.sz h; simp only [List.length_nil] at *; omega
   rw [h0, hl0]
   cases hS : S.a <;> simp [SV.v, hS, Builtin.firstCells, loadCells, loadCellsFrom]
  ·simp only [SV.v, ha, Builtin.firstCells]
   exact run_cells a (τ.flat l) (fun j u hu => by have := hc j u hu; simpa [World.cell?, hw'] using this) _ (by rw [τ.flat_length, hsz, hn])
 by_cases hroom : S.n + m.length ≤ S.c
 ·-- in place
  have hf := hfc w rfl
  rcases h with ⟨hno, h0⟩ | ⟨_, _, hf0, _⟩ | ⟨b, o, hS, _, cs, fr, hp, hfr, hlen', hcs, hmx⟩
  rotate_left
  ·cases hf0
  rotate_left
  ·refine ⟨S, w, ?_, ?_⟩
   ·have hm0 : m.length = 0 := by omega
    have hS0 : S.n = 0 := by omega
    have hroom' : S.n + m.length ≤ S.c := hroom
    simp only [Builtin.append_, SV.v, hno]
    simp [run_underlying ht, run_underlying ht', sizeOf, typeInfo, hr, hrs, hlen, hroom', hf]
    cases d' <;> simp at hd' <;> simp [hm0]
   ·have : m = [] := List.eq_nil_of_length_eq_zero (by omega)
    subst this
    rw [List.append_nil]
    exact hs.map_at hL fun _ h => h
  ·have hb' := (hw b _ hp).2
   have hmul : (S.n + m.length) * τ.sz ≤ S.c * τ.sz := Nat.mul_le_mul_right _ hroom
   rw [Nat.add_mul] at hmul
   obtain ⟨w', hst, ht1⟩ := run_storeCells (P := P) b τ.e fr (τ.flat m) (o + S.n * τ.sz) 0 cs w hb' hfr (by rw [τ.flat_length]; omega) (τ.flat_one m)
   refine ⟨⟨S.a, S.n + m.length, S.c⟩, w', ?_, ?_⟩
   ·have hroom' : S.n + m.length ≤ S.c := hroom
    simp only [Builtin.append_, SV.v, hS]
    simp [run_underlying ht, run_underlying ht', sizeOf, typeInfo, hr, hrs]
    have hst' : (storeCells ((⟨b, o, none⟩ : Addr).add (S.n * sz)) (τ.flat m)).run P w = .ok () w' := by rw [addr_add, hsz]; exact hst
    cases d' <;> simp at hd' <;> simp [hlen, hroom', hf, hst']
   ·refine hs.turn_at hL (fun p' ⟨_, _, hp2⟩ _ => ?_) ht1
    have hp' : ∃ o', p' b = some o' := by
     rcases hp2 with ⟨hno, _⟩ | ⟨_, _, hf0, _⟩ | ⟨b2, o2, hS2, _, cs2, fr2, hb2, _⟩
     ·rw [hno] at hS; cases hS
     ·cases hf0
     ·rw [hS2] at hS; simp only [Option.some.injEq, Addr.mk.injEq] at hS; obtain ⟨rfl, _⟩ := hS; exact ⟨_, hb2⟩
    have hfl := τ.flat_length m
    refine ⟨hp', by simp [hn], hroom, .inr (.inr ⟨b, o, hS, rfl, cs.take (o + S.n * τ.sz) ++ τ.flat m ++ cs.drop (o + S.n * τ.sz + (τ.flat m).length), fr, by simp, ?_, ?_, ?_, hmx⟩)⟩
    ·have : (cs.take (o + S.n * τ.sz) ++ τ.flat m ++ cs.drop (o + S.n * τ.sz + (τ.flat m).length)).length = cs.length := by simp; omega
     rw [this]; exact hfr
    ·have : (cs.take (o + S.n * τ.sz) ++ τ.flat m ++ cs.drop (o + S.n * τ.sz + (τ.flat m).length)).length = cs.length := by simp; omega
     rw [this]; exact hlen'
    ·rw [τ.flat_append, ← hcs]
     have := splice_window cs o (S.n * τ.sz) (τ.flat m) (by omega)
     rw [hfl, ← Nat.add_mul] at this
     rw [hfl]
     exact this
 ·-- a new row
  have hfit := hfit.resolve_right hroom
  have hn' : ¬ (S.n + m.length ≤ S.c) := hroom
  have h63' : ¬ (9223372036854775807 < ((S.n : Int) + (m.length : Int))) := by omega
  have h48' : ¬ (281474976710656 < Builtin.nextslicecap (S.n + m.length) S.c * by_) := by omega
  have hf := hfc w.drew rfl
  have hfo := hcellsl w.drew rfl
  let cap := grownCap w (S.n + m.length) S.c τ.e
  let C : List Value := τ.flat l ++ τ.flat m ++ (Builtin.zeroCells z.cells (cap - (S.n + m.length))).toList
  have hcapge : S.n + m.length ≤ cap := grownCap_ge w _ _ _
  have hcaple : cap ≤ 9223372036854775807 := by
   have := grownCap_le_maxLen w (S.n + m.length) S.c τ.e (by unfold maxLen; omega)
   unfold maxLen at this; exact this
  refine ⟨⟨some ⟨w.heap.size, 0, none⟩, S.n + m.length, cap⟩, w.drew.alloc (.cells C.toArray τ.e), ?_, ?_⟩
  ·have e1 : C.toArray = (τ.flat l).toArray ++ (τ.flat m).toArray ++ Builtin.zeroCells z.cells (cap - (S.n + m.length)) := by
    simp [C]
   rw [e1]
   have key : (Builtin.append_ #[t, t'] ty #[.slice S.a S.n S.c, x]).run P w = .ok (SV.v ⟨some ⟨w.heap.size, 0, none⟩, S.n + m.length, cap⟩) (w.drew.alloc (.cells ((τ.flat l).toArray ++ (τ.flat m).toArray ++ Builtin.zeroCells z.cells (cap - (S.n + m.length))) τ.e)) := by
    have hfo' : (Builtin.firstCells r.size S.n (.slice S.a S.n S.c)).run P w.drew = .ok (τ.flat l).toArray w.drew := by rw [hrs]; exact hfo
    have hf' : (Builtin.firstCells r.size m.length x).run P w.drew = .ok (τ.flat m).toArray w.drew := by rw [hrs]; exact hf
    simp only [Builtin.append_]
    simp [run_underlying ht, run_underlying ht', sizeOf, typeInfo, hr]
    cases d' <;> simp at hd' <;> simp [zeroValue, typeInfo, hr, hrz, hrb, hlen, hn', h63', h48', Question.forced, hf', hfo', newRow, grownCap, cap, SV.v] <;> (congr 2; rw [← Array.append_assoc]; simp)
   exact key
  ·have hnw := newed_drew_alloc w (.cells C.toArray τ.e)
   have hfl := τ.flat_length (l ++ m)
   rw [τ.flat_append] at hfl
   have hsat := hs.new_row (τ := τ) (l := l ++ m) (c := cap) hnw (.inl (Nat.le_refl _)) (by simp; omega) (by
    have hzl : (Builtin.zeroCells z.cells (cap - (S.n + m.length))).toList.length = (cap - (S.n + m.length)) * τ.sz := by rw [Array.length_toList, size_zeroCells, hz, hsz]
    have hCl : C.length = (τ.flat l).length + (τ.flat m).length + (cap - (S.n + m.length)) * τ.sz := by
     show (τ.flat l ++ τ.flat m ++ (Builtin.zeroCells z.cells (cap - (S.n + m.length))).toList).length = _
     rw [List.length_append, List.length_append, hzl]
    rw [hCl, Nat.sub_mul]
    have := Nat.mul_le_mul_right τ.sz hcapge
    rw [List.length_append, List.length_append] at hfl
    rw [hn] at this ⊢
    omega) (by
    simp only [C]
    rw [List.take_append, show (l ++ m).length * τ.sz - (τ.flat l ++ τ.flat m).length = 0 by omega, List.take_zero, List.append_nil, List.take_of_length_le (by omega), τ.flat_append]) hcaple
   have := hsat.swap i
   rw [hn]
   rw [List.length_append] at this
   exact this
/-- append(s, t...) -/
theorem O_app (i : Nat) {K : Value → List HProp → Prop} {t t' sz by_ : Nat} {z : Value} {x y : Operand} {S T : SV} {l m : List α} [u : TyU P t (.slice τ.e)] [u' : TyU P t' (.slice τ.e)] [v : TyI P τ.e sz z by_] (hL : L[i]? = some (slc τ true S l)) (hT : ∀ w, Sat E w L → Rd τ w T m)
 (hx : ρ.ev x = some S.v) (hy : ρ.ev y = some T.v) (hsz : sz = τ.sz) (hz : z.cells.size = sz) (hb : (l.length + m.length) * by_ ≤ 140737488355328) (hb1 : 1 ≤ by_)
 (hK : ∀ S', K (SV.v S') (L.set i (slc τ true S' (l ++ m)))) : JOp P E n ⟨dst, .call ⟨.builtin .append, #[x, y], #[t, t']⟩, ty, pos, after, g⟩ K ρ L := fun a w ha hs next Q hn => by
 have hR := hT w hs
 obtain ⟨S', w', hr, hs'⟩ := run_append_all (P := P) (ty := ty) hs i u.h u'.h rfl v hsz hz S l m T.v hL (by simp [Builtin.lenOf, hR.1]) (fun w' hw' => by
  rcases hR.cells with h0 | ⟨b, hb, hc⟩
  ·have hl0 : m.length = 0 := by
    have := τ.flat_length m
    rw [h0] at this
    have hp := τ.pos
    rcases Nat.eq_zero_or_pos m.length with h | h
    ·exact h
    ·have := Nat.mul_le_mul_right τ.sz h; simp only [List.length_nil] at *; omega
   rw [h0, hl0]
   cases hS : T.a <;> simp [SV.v, hS, Builtin.firstCells, loadCells, loadCellsFrom]
  ·simp only [SV.v, hb, Builtin.firstCells]
   exact run_cells b (τ.flat m) (fun j u hu => by have := hc j u hu; simpa [World.cell?, hw'] using this) _ (by rw [τ.flat_length, hsz])) hb hb1
 unfold Oper.wp
 simp only [execOp, resolve]
 have e1 : (Array.map a.eval #[x, y]) = #[S.v, T.v] := by simp [ha.ev hx, ha.ev hy]
 simp only [run_bind_pure, invoke, e1, builtin]
 simp only [Sem.run_bind, hr, Result.andThen_ok, Sem.run_pure]
 exact hn _ _ w' (hK S') hs'
/-- append(b, s...) of a string -/
theorem O_appS {β : Ty UInt8} (hβ : ∀ b, β.enc b = [.int .u8 (b.toNat : Int)]) (i : Nat) {K : Value → List HProp → Prop} {t t' sz by_ : Nat} {z : Value} {x y : Operand} {S : SV} {l m : List UInt8} [u : TyU P t (.slice β.e)] [u' : TyU P t' .string] [v : TyI P β.e sz z by_] (hL : L[i]? = some (slc β true S l))
 (hx : ρ.ev x = some S.v) (hy : ρ.ev y = some (str m)) (hsz : sz = β.sz) (hz : z.cells.size = sz) (hb : (l.length + m.length) * by_ ≤ 140737488355328) (hb1 : 1 ≤ by_)
 (hK : ∀ S', K (SV.v S') (L.set i (slc β true S' (l ++ m)))) : JOp P E n ⟨dst, .call ⟨.builtin .append, #[x, y], #[t, t']⟩, ty, pos, after, g⟩ K ρ L := fun a w ha hs next Q hn => by
 have hflat : β.flat m = m.map (fun b : UInt8 => Value.int .u8 (b.toNat : Int)) := by
  clear hK hL hy hs ha hx hb
  induction m with
  | nil => rfl
  | cons b m ih => rw [β.flat_cons, ih, hβ]; rfl
 obtain ⟨S', w', hr, hs'⟩ := run_append_all (P := P) (ty := ty) hs i u.h u'.h rfl v hsz hz S l m (str m) hL (by simp [Builtin.lenOf, size_str]) (fun w' hw' => by
  have := Lib.run_firstCells_string (P := P) w' sz ⟨m.toArray⟩
  rw [size_str] at this
  rw [this, hflat]
  simp [Lib.strCells]) hb hb1
 unfold Oper.wp
 simp only [execOp, resolve]
 have e1 : (Array.map a.eval #[x, y]) = #[S.v, str m] := by simp [ha.ev hx, ha.ev hy]
 simp only [run_bind_pure, invoke, e1, builtin]
 simp only [Sem.run_bind, hr, Result.andThen_ok, Sem.run_pure]
 exact hn _ _ w' (hK S') hs'
/-- []byte(s) -/
theorem O_s2b {β : Ty UInt8} (hβ : ∀ b, β.enc b = [.int .u8 (b.toNat : Int)]) (hβs : β.sz = 1) {K : Value → List HProp → Prop} {s t : Nat} {x : Operand} {m : List UInt8} [u : TyU P s .string] [u' : TyU P t (.slice β.e)] [u8 : TyU P β.e (.int .u8)] (hx : ρ.ev x = some (str m)) (hm : m.length ≤ 140737488355328)
 (hK : ∀ S, K (SV.v S) (slc β true S m :: L)) : JOp P E n ⟨dst, .convert s t x, ty, pos, after, g⟩ K ρ L := fun a w ha hs next Q hn => by
 have hr := run_bytes_of_string (P := P) w s t β.e ⟨m.toArray⟩ u.h u'.h u8.h
 have hflat : β.flat m = m.map (fun b : UInt8 => Value.int .u8 (b.toNat : Int)) := by
  clear hK hs ha hx hr hm
  induction m with
  | nil => rfl
  | cons b m ih => rw [β.flat_cons, ih, hβ]; rfl
 rw [size_str] at hr
 have hge := grownCap_ge w m.length 0 β.e
 have hle : grownCap w m.length 0 β.e ≤ 9223372036854775807 := by
  have := grownCap_le_maxLen w m.length 0 β.e (by unfold maxLen; omega)
  unfold maxLen at this; exact this
 have hC : (bytesRow ⟨m.toArray⟩ (grownCap w m.length 0 β.e)).toList = β.flat m ++ List.replicate (grownCap w m.length 0 β.e - m.length) (.int .u8 0) := by
  rw [hflat]
  simp [bytesRow, size_str]
 have hnw := newed_drew_alloc w (.cells (bytesRow ⟨m.toArray⟩ (grownCap w m.length 0 β.e)) β.e ((bytesRow ⟨m.toArray⟩ (grownCap w m.length 0 β.e)).size, (bytesRow ⟨m.toArray⟩ (grownCap w m.length 0 β.e)).size + 1))
 have hfl := β.flat_length m
 have hsz : (bytesRow ⟨m.toArray⟩ (grownCap w m.length 0 β.e)).toList.length = grownCap w m.length 0 β.e := by
  rw [hC, List.length_append, hfl, List.length_replicate, hβs]; omega
 have hsat := hs.new_row (τ := β) (l := m) (c := grownCap w m.length 0 β.e) (cs := (bytesRow ⟨m.toArray⟩ (grownCap w m.length 0 β.e)).toList) (by simpa using hnw) (.inr (by simp)) hge (by rw [hsz, hβs]; omega) (by
  rw [hC, List.take_append, hfl, show m.length * β.sz - m.length * β.sz = 0 by omega, List.take_zero, List.append_nil, List.take_of_length_le (by omega)]) hle
 unfold Oper.wp
 simp only [execOp, ha.ev hx]
 simp only [Sem.run_bind, hr, Result.andThen_ok, Sem.run_pure]
 exact hn _ _ _ (hK ⟨some ⟨w.heap.size, 0, none⟩, m.length, grownCap w m.length 0 β.e⟩) hsat
/-- make([]T, m) -/
theorem O_mk {K : Value → List HProp → Prop} {t sz by_ : Nat} {z : Value} {x y : Operand} {k k' : IntKind} {i j : Int} (m : Nat) (a0 : α) [u : TyU P t (.slice τ.e)] [v : TyI P τ.e sz z by_] (hx : ρ.ev x = some (.int k i)) (hy : ρ.ev y = some (.int k' j)) (hi : i = (m : Int)) (hj : j = (m : Int)) (hsz : sz = τ.sz) (hz : z.cells.toList = τ.enc a0)
 (hb : m * by_ ≤ 140737488355328) (hb1 : 1 ≤ by_) (hK : ∀ S, K (SV.v S) (slc τ true S (List.replicate m a0) :: L)) : JOp P E n ⟨dst, .makeSlice t x y, ty, pos, after, g⟩ K ρ L := fun a w ha hs next Q hn => by
 obtain ⟨r, hr, hrs, hrz, hrb⟩ := v.get
 subst hi hj
 have hm : m ≤ 140737488355328 := Nat.le_trans (Nat.le_mul_of_pos_right _ hb1) hb
 have hbb : (r.bytes : Int) * (m : Int) ≤ 281474976710656 := by
  rw [hrb, ← Int.natCast_mul, Nat.mul_comm]; omega
 have hrun := run_make (P := P) w t τ.e r z u.h hr hrz k k' m m (by omega) (by omega) hbb (by omega)
 simp only [Int.toNat_natCast, hrs] at hrun
 have hzs : z.cells.size = sz := by rw [← Array.length_toList, hz, τ.len, hsz]
 have hcells : (madeCells z.cells (m * sz)).toList = τ.flat (List.replicate m a0) := by
  rw [τ.flat_replicate, ← hz]
  apply List.ext_getElem?
  intro q
  have hp := τ.pos
  have e0 : z.cells.toList.length = sz := by simp [hzs]
  by_cases hq : q < m * sz
  ·have hqs : q % sz < sz := Nat.mod_lt _ (by omega)
   have e1 : (madeCells z.cells (m * sz)).toList[q]? = some (z.cells[q % sz]!) := by
    simp [madeCells, hq, hzs]
   have : ∀ (m : Nat) (ls : List Value) (q : Nat), 0 < ls.length → q < m * ls.length → (List.replicate m ls).flatten[q]? = ls[q % ls.length]? := by
    intro m
    induction m with
    | zero => intro ls q _ h; simp at h
    | succ m ih =>
     intro ls q hp h
     rw [List.replicate_succ, List.flatten_cons]
     by_cases hlt : q < ls.length
     ·rw [List.getElem?_append_left hlt, Nat.mod_eq_of_lt hlt]
     ·rw [List.getElem?_append_right (by omega), ih _ _ hp (by rw [Nat.add_mul] at h; omega)]
      congr 1
      rw [← Nat.mod_eq_sub_mod (by omega)]
   rw [e1, this m _ q (by omega) (by rw [e0]; exact hq), e0]
   have : q % sz < z.cells.size := by omega
   simp [this]
  ·rw [List.getElem?_eq_none (by simp [madeCells]; omega), List.getElem?_eq_none]
   simp [e0]
   first | omega | (rw [Nat.mul_comm]; omega)
 have hfl := τ.flat_length (List.replicate m a0)
 rw [List.length_replicate] at hfl
 have hsat := hs.new_row (τ := τ) (l := List.replicate m a0) (c := m) (cs := (madeCells z.cells (m * sz)).toList) (by simpa using newed_alloc w (.cells (madeCells z.cells (m * sz)) τ.e)) (.inl (Nat.le_refl _)) (by simp) (by rw [hcells, hfl]; exact Nat.le_refl _) (by
  rw [List.length_replicate, hcells, List.take_of_length_le (by omega)]) (by omega)
 unfold Oper.wp
 simp only [execOp, ha.ev hx, ha.ev hy]
 simp only [Sem.run_bind, hrun, Result.andThen_ok, Sem.run_pure]
 rw [List.length_replicate] at hsat
 exact hn _ _ _ (hK ⟨some ⟨w.heap.size, 0, none⟩, m, m⟩) hsat
end
end Go.SL
