/- A timer's open numbers: the library's sorted keys, by its contracts. -/
import Derived.Test.YtmmkepghmmbppaaWin2
import Derived.Test.YtmmkepghmmbppaaKeysW
set_option autoImplicit false
namespace Go.Proofs
open Go.SL Go.Maps Go.Sort Go.Shelf
abbrev Wt := Int × Int
def mW : MTy Int Wt := ⟨3, 76, .int .i64, fun z => .int .i64 z, fun b => .agg #[.int .i64 b.1, .int .i64 b.2], fun a b => by simp only [Instr.sameNow, if_true, Option.some.injEq]; by_cases h : a = b <;> simp [h], fun a => by simp [Instr.sameBits], .inl ⟨.i64, rfl⟩⟩
instance : TyU Try.prog mW.kt mW.kd := inferInstanceAs (TyU Try.prog 3 (.int .i64))
instance : TyI Try.prog mW.vt 2 (.agg #[.int .i64 0, .int .i64 0]) 16 := inferInstanceAs (TyI Try.prog 76 2 (.agg #[.int .i64 0, .int .i64 0]) 16)
instance : TyU Try.prog 71 (.map mW.kt mW.vt) := inferInstanceAs (TyU Try.prog 71 (.map 3 76))
def openS (m : List (Int × Wt)) : List Int := (m.map (·.1)).mergeSort fun x y => decide (x ≤ y)
def valInt : Value → Int
  | .int _ k => k
  | _ => 0
theorem _root_.Go.SL.Sat.below {E w w' : World} {L : List HProp} (hs : Sat E w L) (hb : Go.RowKit.Below w.heap.size w w') : Sat E w' L := by
  obtain ⟨fr, f1, f2, f3⟩ := hs.own
  refine ⟨hb.os.trans hs.os, hb.tape.trans hs.tape, hb.output.trans hs.output, Nat.le_trans hs.size hb.size, fun k hk => ?_, fr, f1, fun i hi k o ho => ?_, f3⟩
  · rw [hb.block k (Nat.lt_of_lt_of_le hk hs.size)]; exact hs.old k hk
  · obtain ⟨a, c⟩ := f2 i hi k o ho
    exact ⟨a, by rw [hb.block k (Array.getElem?_eq_some_iff.1 c).1]; exact c⟩
theorem keys_ok (E : World) (r : Nat) : Does Try.prog E 42 [.map (some r)] [] fun v L => ∃ b : Nat, v = .func (.func 51) #[] #[.pointer (some ⟨b, 0, none⟩)] ∧ L = [cel b [.map (some r)] 71] := by
  intro F w hs
  have c := AnyZI.keys_in Try.keysA Fence.wide 5 trivial rfl (some r) w
  refine ((callsIn_wide (n := 5)).1 c).mono ?_
  rintro e w' ⟨rfl, rfl⟩
  refine ⟨_, _, rfl, ⟨w.heap.size, rfl, rfl⟩, ?_⟩
  exact (hs.newed (newed_alloc w (.cells #[.map (some r)] 71))).weaken fun p hp => ⟨(0, 0), hp, .inl (Nat.le_refl _)⟩
theorem sorted_uniq : ∀ {a b : List Int}, a.Perm b → a.Pairwise (· ≤ ·) → b.Pairwise (· ≤ ·) → a = b
  | [], b, h, _, _ => (List.nil_perm.1 h).symm
  | x :: a, [], h, _, _ => absurd h.symm (by intro h; have := List.nil_perm.1 h; simp at this)
  | x :: a, y :: b, h, ha, hb => by
    rw [List.pairwise_cons] at ha hb
    have hxy : x = y := by
      have h1 : x ∈ y :: b := h.mem_iff.1 (by simp)
      have h2 : y ∈ x :: a := h.mem_iff.2 (by simp)
      rcases List.mem_cons.1 h1 with h1 | h1
      · exact h1
      · rcases List.mem_cons.1 h2 with h2 | h2
        · exact h2.symm
        · have := ha.1 y h2; have := hb.1 x h1; omega
    subst hxy
    rw [sorted_uniq (List.perm_cons x |>.1 h) ha.2 hb.2]
theorem sort_sorted (a : List Int) : (a.mergeSort fun x y => decide (x ≤ y)).Pairwise (· ≤ ·) := by
  have h := List.pairwise_mergeSort (le := fun x y : Int => decide (x ≤ y)) (fun a b c h1 h2 => by simp only [decide_eq_true_eq] at *; omega) (fun a b => by simp only [Bool.or_eq_true, decide_eq_true_eq]; omega) a
  exact h.imp fun h => of_decide_eq_true h
theorem mergeSort_perm_eq {a b : List Int} (h : a.Perm b) : a.mergeSort (fun x y => decide (x ≤ y)) = b.mergeSort (fun x y => decide (x ≤ y)) :=
  sorted_uniq (((List.mergeSort_perm a _).trans h).trans (List.mergeSort_perm b _).symm) (sort_sorted a) (sort_sorted b)
theorem sorts_ok (n : Nat) : AnyZI.SortsIn Try.prog Try.sortedA_ren Fence.wide n :=
  ⟨fun blk off cap ss W hH hblk hsz => callsIn_wide.2 (AnyM.slices_Sort_int Try.sortA blk off cap ss W hH hblk hsz),
   fun p cap W => callsIn_wide.2 (AnyM.slices_Sort_int_none Try.sortA p cap W)⟩
theorem sorted_ok (E : World) (b r : Nat) (m : List (Int × Wt)) (hn : (m.map (·.1)).Nodup) (hl : m.length ≤ 1000000) (hw : ∀ x ∈ m, -9223372036854775808 ≤ x.1 ∧ x.1 ≤ 9223372036854775807) :
    Does Try.prog E 41 [.func (.func 51) #[] #[.pointer (some ⟨b, 0, none⟩)]] [cel b [.map (some r)] 71, mpC mW r m] fun v L => ∃ S : SV, v = S.v ∧ L = [cel b [.map (some r)] 71, mpC mW r m, slc tZ true S (openS m)] := by
  intro F w hs
  have hc := hs.cel_cell (i := 0) (cs := [.map (some r)]) rfl 0 (.map (some r)) rfl
  obtain ⟨p, ⟨es, clock, hb, hr, h1, h2⟩, hpw⟩ := hs.at (i := 1) (c := mpC mW r m) rfl
  have hbw := (hpw r _ hb).2
  have hlen := mrow_len hr
  let R : Value → Option (DataW Nat × List MemPlace) := fun _ => some (.nil, [])
  have hkeys : es.toList.map (·.key) = m.map fun x => Value.int .i64 x.1 := by
    have := congrArg (List.map (·.1)) hr
    rw [List.map_map, List.map_map] at this
    exact this
  have hkn : (es.toList.map (·.key)).Nodup := by
    rw [hkeys, show (m.map fun x => Value.int .i64 x.1) = (m.map (·.1)).map (fun z => Value.int .i64 z) by simp]
    exact List.Pairwise.map _ (fun a b h e => h (by simpa using e)) hn
  have hwf : ∀ x ∈ m, (Lit.int .i64 x.1).wf = true := fun x hx => by
    have := hw x hx
    simp [Lit.wf, IntKind.min, IntKind.max, IntKind.bits, IntKind.signed]; omega
  have u3 : Try.prog.underlying 3 = some (.int .i64) := (inferInstance : TyU Try.prog 3 (.int .i64)).h
  have hrd : ∀ e ∈ es.toList, ∃ x ∈ m, e.key = .int .i64 x.1 ∧ Go.WideElems.rd Try.prog 3 R e = some (.int .i64 x.1, .nil) := fun e he => by
    have : e.key ∈ m.map fun x => Value.int .i64 x.1 := by rw [← hkeys]; exact List.mem_map_of_mem he
    obtain ⟨x, hx, hxe⟩ := List.mem_map.1 this
    refine ⟨x, hx, hxe.symm, ?_⟩
    unfold Go.WideElems.rd
    rw [← hxe, keyOf_int_mk u3 (hwf x hx)]
    rfl
  have hown : w.ownsMap Try.prog 3 R r es.size (.map ((es.toList.map (Go.WideElems.rg Try.prog 3 R)).foldr DataW.insert [])) :=
    ⟨es, clock, hbw, ⟨by unfold maxLen; simp at hlen; omega, ⟨h1, h2, hkn⟩, fun e he => by obtain ⟨x, _, _, h⟩ := hrd e he; exact ⟨_, h⟩⟩, Nat.le_refl _, rfl⟩
  have hik : (intKeys (.map ((es.toList.map (Go.WideElems.rg Try.prog 3 R)).foldr DataW.insert []))).Perm (m.map (·.1)) := by
    have h5 := (Go.WideShapes.sorted_perm (es.toList.map (Go.WideElems.rg Try.prog 3 R))).map (fun p => Go.intOf p.1)
    refine h5.trans ?_
    rw [List.map_map]
    have h6 : es.toList.map ((fun p => Go.intOf p.1) ∘ Go.WideElems.rg Try.prog 3 R) = (es.toList.map (·.key)).map valInt := by
      rw [List.map_map]
      apply List.map_congr_left
      intro e he
      obtain ⟨x, _, h7, h8⟩ := hrd e he
      simp only [Function.comp, Go.WideElems.rg, h8, h7, Option.getD_some]
      rfl
    rw [h6, hkeys, List.map_map]
    exact List.Perm.refl _
  have hsz : Maps.size (H := Nat) (.map ((es.toList.map (Go.WideElems.rg Try.prog 3 R)).foldr DataW.insert [])) = es.size := by
    rw [Maps.size_eq, length_sorted]; simp
  generalize hD : (DataW.map ((es.toList.map (Go.WideElems.rg Try.prog 3 R)).foldr DataW.insert [])) = D0 at hown hik hsz
  have hbB := World.block_lt_of_cell? w _ hc
  have hseq : SeqGives Fence.wide 2 Try.prog 51 #[.pointer (some ⟨b, 0, none⟩)] encZ (fun ss => ss.Perm (intKeys D0)) (Maps.size D0) w :=
    AnyZI.keys_gives (ρ := Try.keysA_ren) { Try.keysA with } Fence.wide _ trivial rfl (by omega) b r es.size D0 w hbB hc hown
  have hle : es.size = m.length := by simpa using hlen
  have cS := AnyZI.sorted_in Try.sortedA Fence.wide 5 trivial trivial trivial trivial rfl (by omega) (sorts_ok _) (enters_of Try.func50 (by kernel_rfl) rfl) 51 #[.pointer (some ⟨b, 0, none⟩)] trivial (enters_of Try.func51 (by kernel_rfl) rfl) _ _ (by rw [hsz]; unfold maxLen; omega) (by rw [hsz]; omega) w hseq
  refine ((callsIn_wide (n := 5)).1 cS).mono ?_
  rintro e w' ⟨v, ss, rfl, hS, hrow, hnil, hbel⟩
  have hso : ss.mergeSort (fun x y => decide (x ≤ y)) = openS m := mergeSort_perm_eq (hS.trans hik)
  rw [hso] at hrow
  have hsl : ss.length = (openS m).length := by rw [← hso, List.length_mergeSort]
  have hflat : tZ.flat (openS m) = (openS m).map encZ := by
    generalize openS m = l
    induction l with
    | nil => rfl
    | cons x l ih => rw [tZ.flat_cons, ih]; rfl
  obtain ⟨hx1, hrow⟩ := hrow
  rcases hrow with ⟨rfl, h0⟩ | ⟨gb, cap, cur, rfl, hbase, hgb, r1, r2, r3, r4⟩
  · have hem : openS m = [] := List.eq_nil_of_length_eq_zero (by omega)
    refine ⟨_, _, rfl, ⟨SV.nil, rfl, rfl⟩, ?_⟩
    rw [hem]
    have h9 : Sat E w' [cel b [.map (some r)] 71, mpC mW r m, F] := hs.below hbel
    exact (h9.lay_nil tZ true).pick [1, 2, 0, 3] rfl
  · refine ⟨_, _, rfl, ⟨⟨some ⟨gb, 0, none⟩, ss.length, cap⟩, rfl, rfl⟩, ?_⟩
    have hnw : Newed w w' gb (.cells cur 3 (0, 0)) := ⟨hbel.os, hbel.tape, hbel.output, hbase, hbel.size, hbel.block, hgb⟩
    have h9 := (hs.newed hnw).weaken (d := slc tZ true ⟨some ⟨gb, 0, none⟩, ss.length, cap⟩ (openS m)) fun p hp => ⟨hsl, r1, .inr (.inr ⟨gb, 0, rfl, rfl, cur.toList, (0, 0), hp, .inl (Nat.le_refl _), by simp [r3, tZ], by
      rw [hflat, List.drop_zero]; exact r4, by unfold maxLen at r2; exact r2⟩)⟩
    exact Sat.pick h9 [1, 2, 0, 3] rfl
end Go.Proofs
