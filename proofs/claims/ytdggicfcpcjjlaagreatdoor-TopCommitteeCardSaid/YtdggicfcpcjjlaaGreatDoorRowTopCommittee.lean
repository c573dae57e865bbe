/- The row of the law TopCommittee: what is laid, its arguments opened, its walk, its answer told; its card, tied to the text. -/
import Derived.Test.YtdggicfcpcjjlaaGreatDoorTie
import Derived.Test.YtdggicfcpcjjlaaGreatDoorCards
import Derived.Test.YtdggicfcpcjjlaaGreatDoorM48
import Derived.Test.YtdggicfcpcjjlaaGreatDoorM11
import Derived.WalkKit
import Derived.ProofKit
import Derived.OpenShut
import Derived.ShutString
import Derived.ChangeOld
import Derived.Below
import Derived.SizedLaws
import Derived.LaidMore
import Derived.Lay
import Derived.Stop.LaidErr
import Derived.SevenTiedAt
import Derived.Stop.Joined
namespace Go.Proofs.YtdggicfcpcjjlaaGreatDoor.topCommittee
open Go.ChangeShapes Go.WideShapes Go.ChangeAt Go.RowKit Go.SL
theorem own : ownKnob Tryz.prog.godebug = none := by kernel_rfl
theorem laidOut : laidOutB Tryz.prog = true := by kernel_rfl
/-- What the row lists is what the walk asks. -/
theorem laidE {W : World} (h : laidMetH Tryz.prog Rows.topCommitteeRow.laid W) : LaidE W := by
  rw [MakeChecks.laidMetH_plain _ _ _ (by kernel_rfl)] at h
  have e : Rows.topCommitteeRow.laid = [("sandglass/sha.first", Lib.tabData .u32 (shaF.map fun c => (c.toNat : Int))), ("sandglass/sha.rounds", Lib.tabData .u32 (shaK.map fun c => (c.toNat : Int)))] := by kernel_rfl
  rw [e] at h
  have g0 : Tryz.prog.globalNamed "sandglass/sha.first" = some 0 := by kernel_rfl
  have g2 : Tryz.prog.globalNamed "sandglass/sha.rounds" = some 2 := by kernel_rfl
  have h1 := laid_of (Lib.tabIs_of_head g0 (by kernel_rfl) Tryz.underlying203 Tryz.underlying202 (by kernel_rfl) (by kernel_rfl) h) g0 (by decide)
  have h2 := laid_of (Lib.tabIs_of_head g2 (by kernel_rfl) Tryz.underlying292 Tryz.underlying202 (by kernel_rfl) (by kernel_rfl) (laidMet.tail h)) g2 (by decide)
  rw [List.map_map] at h1 h2
  exact ⟨h1, h2⟩
set_option maxRecDepth 100000 in
theorem lifted (os : Os) (started : os.Started) (H : Type) (enc : TypeId × Value → H) :
    ReturnsInHanded {} Tryz.checked os 4 .any (fun w args => (Rows.topCommitteeSpec.pre enc Tryz.prog Tryz.f4 Rows.topCommitteeRow.domain false w args ∧ laidMetH Tryz.prog Rows.topCommitteeRow.laid w) ∧ sizedMet enc Tryz.prog Tryz.f4 (OpenSpec.ofChange Rows.topCommitteeSpec) false w args)
      (Rows.topCommitteeSpec.post enc Tryz.prog Tryz.f4 false true false false) := by
  refine returnsInHanded_of_change_and (C := Tryz.checked) (X := fun w _ => laidMetH Tryz.prog Rows.topCommitteeRow.laid w) (fun _ _ _ hh h => h.of_heap hh) own started (by kernel_rfl) Tryz.func4
    (ChangeSpec.witness_shaped (enc := enc) (C := Tryz.checked) (os := os) (X := fun w _ => laidMetH Tryz.prog Rows.topCommitteeRow.laid w) false (World.laidAll Tryz.prog os Rows.topCommitteeRow.laid) #[.agg #[.int .i64 0, .int .i64 0], .slice none 0 0, .slice none 0 0] 8 (World.laidAll_os _ _ _)
      (World.shaped_of_ZipB (by kernel_rfl) (by kernel_rfl)) (by kernel_rfl) (by kernel_rfl) (by kernel_rfl)
      (by rw [MakeChecks.laidMetH_plain _ _ _ (by kernel_rfl)]; exact laidMet_laidAll _ (by kernel_rfl) (by kernel_rfl))) ?_
  intro W base args ds gs before hval0 hW _ _ hL _
  have hval : ∀ (j : Nat) t v, Tryz.f4.params[j]? = some t → args[j]? = some v → Value.okWide Tryz.prog W .any base t v := hval0
  have hW' := hW
  obtain ⟨p, q, hA0, hV, rfl, hfz, hnd⟩ := hW
  have hA : DataW.TrodAll enc Tryz.prog W 0 (fun _ => true) true Tryz.f4.params.toList args.toList ds p := hA0
  rw [Tryz.params4] at hA hval
  obtain ⟨v0, vs0, d0, ds0, p0, q0, hargs, rfl, rfl, h0, r0⟩ := trodAll_cons hA
  obtain ⟨v1, vs1, d1, ds1, p1, q1, rfl, rfl, rfl, h1, r1⟩ := trodAll_cons r0
  obtain ⟨v2, vs2, d2, ds2, p2, q2, rfl, rfl, rfl, h2, r2⟩ := trodAll_cons r1
  obtain ⟨rfl, rfl, rfl⟩ := trodAll_nil r2
  obtain rfl : args = #[v0, v1, v2] := by cases args; simp_all
  obtain ⟨rfl, rfl⟩ := trodVars_none hV
  have lt0 : ∀ x ∈ p0, x.block < W.heap.size := by obtain ⟨m, hm⟩ := h0; exact DataW.trod_lt m _ _ _ hm
  have in0 : InStruct [(.int .i64), (.int .i64)] v0 := in_struct (dep := 6) Tryz.underlying37 (by kernel_rfl) (hval 0 37 v0 rfl rfl) h0
  have lt1 : ∀ x ∈ p1, x.block < W.heap.size := by obtain ⟨m, hm⟩ := h1; exact DataW.trod_lt m _ _ _ hm
  have in1 : InRowsR W (CellRows W (List.replicate 4 (.int .u64))) v1 := in_rows2A Tryz.underlying38 Tryz.underlying26 Tryz.underlying24 Tryz.underlying22 (by kernel_rfl) (by kernel_rfl) (by kernel_rfl) (hval 1 38 v1 rfl rfl) h1
  have lt2 : ∀ x ∈ p2, x.block < W.heap.size := by obtain ⟨m, hm⟩ := h2; exact DataW.trod_lt m _ _ _ hm
  have in2 : InRows W [(.int .i64)] v2 := in_rows (dep := 6) Tryz.underlying39 (by kernel_rfl) (by kernel_rfl) (hval 2 39 v2 rfl rfl) h2
  clear hA0 hval0
  refine (Go.Proofs.committee_calls W v0 v1 v2 in0 in1 in2 (laidE hL)).mono fun e W' ⟨he, bel⟩ => ?_
  subst he
  exact ⟨_, rfl, _, _, _, [], _, [], hW', trodAll_mk1 (shut_bool Tryz.underlying4 _), (trodAll_cons_mk (Below.trod laidOut (by kernel_rfl) (of_decide_eq_true (by kernel_rfl)) h0 bel lt0) (trodAll_cons_mk (Below.trod laidOut (by kernel_rfl) (of_decide_eq_true (by kernel_rfl)) h1 bel lt1) (trodAll_cons_mk (Below.trod laidOut (by kernel_rfl) (of_decide_eq_true (by kernel_rfl)) h2 bel lt2) trodAll_mk0))), rfl, bel.frame _, fun h => by cases h⟩
theorem over : Rows.topCommitteeRow.holds Tryz.pinned (OpenSpec.ofChange Rows.topCommitteeSpec) :=
  OpenClaim.holds_of_wide 4 Tryz.f4 rfl rfl rfl rfl rfl rfl rfl ⟨rfl, rfl, rfl, rfl, rfl⟩ rfl rfl rfl rfl rfl (by kernel_rfl) Tryz.func4 (by kernel_rfl)
    (of_decide_eq_true (by kernel_rfl)) (by unfold Func.isWrapper; first | (rw [if_pos (by decide +kernel)]; kernel_rfl) | (rw [if_neg (by decide +kernel)]; exact ⟨rfl, rfl⟩))
    (fun os started H enc _ => lifted os started H enc)
/-- The card, tied to the program's text. -/
theorem card : Rows.TopCommitteeCardSaid :=
  Claim7.holds_tied_plain_at .later [] [.data, .data] true (true, "7ecb8152255a0f0691a158816fe8cd05b6f74067062a01fb48b4b094fa340c7c") true
    over (fun _ h => by cases h) (by kernel_rfl) (fun _ h => by cases h) topCommittee_row_tie rfl ⟨rfl, rfl⟩ (by kernel_rfl) rfl
    (fun f fn hf hfn => by
      obtain rfl : f = 4 := Option.some.inj ((show Tryz.prog.funcNamed "sandglass/sandglasstop.TopCommittee" = some 4 by kernel_rfl).symm.trans hf) |>.symm
      obtain rfl : fn = Tryz.f4 := (Option.some.inj (Tryz.func4.symm.trans hfn)).symm
      exact ⟨by kernel_rfl, fun j t ht => by
        rw [Tryz.params4] at ht
        have hm : t ∈ [37, 38, 39] := by
          have := Array.mem_of_getElem? ht
          simpa using this
        have hall : ([37, 38, 39].all fun u => !Tryz.prog.wantsStandIn u) = true := by kernel_rfl
        exact (show Tryz.prog.wantsStandIn t = false by simpa using List.all_eq_true.1 hall t hm)⟩)
    (by kernel_rfl)
#print axioms card
end Go.Proofs.YtdggicfcpcjjlaaGreatDoor.topCommittee
namespace Go.Proofs.YtdggicfcpcjjlaaGreatDoor
/-- The card, under a short name, for the claim. -/
theorem topCommittee_holds : Rows.TopCommitteeCardSaid := topCommittee.card
end Go.Proofs.YtdggicfcpcjjlaaGreatDoor
