/- Part 24 of the texts below the row: Few38, Refu38, Sure38. -/
import Derived.Test.YtkglhackgghcfaaGreatM23
/- Deeds on a store: how they lie in cells; are they few? A store that is none; pairs the same. -/
set_option autoImplicit false
namespace Go.Proofs
open Go.SL Go.Proofs.Bt
structure Dv where
  kind : Int
  n : Int
  key : Ky
  val : Ky
  keep : Nat
abbrev dvV (d : Dv) : List Value := [.int .i64 d.kind, .int .i64 d.n, str d.key, str d.val, .int .u64 (d.keep : Int)]
def tDv : Ty Dv := ⟨31, 5, dvV, fun _ => rfl, by decide, fun a v hv => by simp [dvV] at hv; rcases hv with rfl | rfl | rfl | rfl | rfl <;> rfl⟩
instance : TyI Tryz.prog tDv.e 5 (.agg #[.int .i64 0, .int .i64 0, .string ⟨#[]⟩, .string ⟨#[]⟩, .int .u64 0]) 56 := inferInstanceAs (TyI Tryz.prog 31 5 (.agg #[.int .i64 0, .int .i64 0, .string ⟨#[]⟩, .string ⟨#[]⟩, .int .u64 0]) 56)
instance : TyU Tryz.prog 22 (.slice tDv.e) := inferInstanceAs (TyU Tryz.prog 22 (.slice 31))
def fewV (l : List Dv) : Bool := decide (l.length ≤ 60) && l.all fun d => decide (d.key.length ≤ 1000) && decide (d.val.length ≤ 2000)
def fewW (l : List Dv) : Int := if fewV l = true then 1 else 0
theorem fewW_f {l : List Dv} (h : fewV l = false) : fewW l = 0 := by unfold fewW; rw [h]; rfl
theorem fewW_t {l : List Dv} (h : fewV l = true) : fewW l = 1 := by unfold fewW; rw [h]; rfl
theorem fewV_text {l : List Dv} (h : fewV l = true) : l.length ≤ 60 ∧ ∀ d ∈ l, d.key.length ≤ 1000 ∧ d.val.length ≤ 2000 := by
  simpa [fewV] using h
attribute [local irreducible] J JL QOp JOp seqQ blockQ loopQ retQ slc cel hex star pur stars Does RV Ent pAt scopeQ
attribute [local irreducible] nodeA nodeX treeA segA snapA kvA
theorem fewV_ok (E : World) (S : SV) (l : List Dv) : Does Tryz.prog E 7 [S.v] [slc tDv false S l] fun v L => v = .int .i64 (fewW l) ∧ L = [slc tDv false S l] := by
  refine Does.of Tryz.func7 rfl Tryz.ntmps7 rfl rfl fun F => ?_
  refine J.norm ?_
  refine J_seq ?_
  refine J_region ?_
  refine L_q (Q_assign rfl) rfl rfl rfl ?_
  refine JL_nil ?_
  refine seqQ_normal ?_
  refine J_seq ?_
  refine J_seq ?_
  refine J_region ?_
  refine L_q (Q_move rfl) rfl rfl rfl ?_
  refine L_q (Q_lenAt 0 rfl rfl) rfl rfl rfl ?_
  refine L_q (Q_gtr rfl rfl) rfl rfl rfl ?_
  refine JL_nil ?_
  refine seqQ_normal ?_
  refine J_condD rfl (fun h => ?_) (fun h => ?_)
  · refine J_seq ?_
    refine J_region ?_
    refine L_q (Q_assign rfl) rfl rfl rfl ?_
    refine JL_nil ?_
    refine seqQ_normal ?_
    refine J_ret ?_
    refine seqQ_ret ?_
    exact retQ_ret _ [slc tDv false S l] (.cons (RV_tmp rfl) .nil) ⟨by rw [fewW_f (by simp [fewV]; omega)]; rfl, rfl⟩ (Ent.refl _)
  · refine J_skip ?_
    refine seqQ_normal ?_
    refine J_seq ?_
    refine J_seq ?_
    refine J_region ?_
    refine L_q (Q_assign rfl) rfl rfl rfl ?_
    refine JL_nil ?_
    refine seqQ_normal ?_
    refine J_block ?_
    refine J_loop (fun k => k ≤ l.length ∧ ∀ a ∈ l.take k, a.key.length ≤ 1000 ∧ a.val.length ≤ 2000) (fun k => [(0, S.v), (3, .int .i64 (k : Int))]) (fun _ => [slc tDv false S l, F]) (fun k => l.length - k) 0 ⟨by simp, by simp⟩ ⟨rfl, rfl, trivial⟩ (Ent.refl _) ?_
    rintro k ⟨hk, ha⟩
    refine J_seq ?_
    refine J_seq ?_
    refine J_region ?_
    refine L_q (Q_move rfl) rfl rfl rfl ?_
    refine L_q (Q_move rfl) rfl rfl rfl ?_
    refine L_q (Q_lenAt 0 rfl rfl) rfl rfl rfl ?_
    refine L_q (Q_lss rfl rfl) rfl rfl rfl ?_
    refine JL_nil ?_
    refine seqQ_normal ?_
    refine J_condD rfl (fun h2 => ?_) (fun h2 => ?_)
    · have hlt : k < l.length := by omega
      have hno : ¬ (l[k].key.length ≤ 1000 ∧ l[k].val.length ≤ 2000) → fewV l = false := fun hn => by
        cases hf : fewV l with
        | false => rfl
        | true => exact absurd ((fewV_text hf).2 l[k] (List.getElem_mem hlt)) hn
      by_cases c1 : l[k].key.length ≤ 1000
      · by_cases c2 : l[k].val.length ≤ 2000
        · refine J_skip ?_
          refine seqQ_normal ?_
          refine J_seq ?_
          refine J_block ?_
          refine J_seq ?_
          refine J_region ?_
          refine L_q (Q_move rfl) rfl rfl rfl ?_
          refine L_q (Q_move rfl) rfl rfl rfl ?_
          refine L_q (Q_ixAt 0 k rfl rfl rfl rfl hlt rfl) rfl rfl rfl ?_
          refine L_q (Q_pfa rfl) rfl rfl rfl ?_
          refine L_q (Q_ldEAt 0 k 2 (v := str l[k].key) rfl rfl rfl rfl hlt (by decide) rfl) rfl rfl rfl ?_
          refine L_q (Q_slen rfl) rfl rfl rfl ?_
          refine L_q ((Q_gtr rfl rfl).as (v' := .bool false) (congrArg Value.bool (decide_eq_false (by omega)))) rfl rfl rfl ?_
          refine L_q (Q_move rfl) rfl rfl rfl ?_
          refine L_q (Q_move rfl) rfl rfl rfl ?_
          refine L_q (Q_move rfl) rfl rfl rfl ?_
          refine L_q (Q_ixAt 0 k rfl rfl rfl rfl hlt rfl) rfl rfl rfl ?_
          refine L_q (Q_pfa rfl) rfl rfl rfl ?_
          refine L_q (Q_ldEAt 0 k 3 (v := str l[k].val) rfl rfl rfl rfl hlt (by decide) rfl) rfl rfl rfl ?_
          refine L_q (Q_slen rfl) rfl rfl rfl ?_
          refine L_q ((Q_gtr rfl rfl).as (v' := .bool false) (congrArg Value.bool (decide_eq_false (by omega)))) rfl rfl rfl ?_
          refine L_q (Q_pickF rfl rfl) rfl rfl rfl ?_
          refine JL_nil ?_
          refine seqQ_normal ?_
          refine J_condF rfl ?_
          refine J_skip ?_
          refine blockQ_normal ?_
          refine seqQ_normal ?_
          refine J_region ?_
          refine L_q (Q_move rfl) rfl rfl rfl ?_
          refine L_q (Q_add rfl rfl (by first | exact IntWalk.i64_in _ (by omega) | exact IntWalk.u8_in _ (by omega) | exact IntWalk.u32_in _ (by omega) | exact IntWalk.u64_in _ (by omega) | rfl)) rfl rfl rfl ?_
          refine L_q (Q_assign rfl) rfl rfl rfl ?_
          refine JL_nil ?_
          refine loopQ_normal (k + 1) ⟨hlt, ?_⟩ (by omega) ⟨rfl, rfl, trivial⟩ (Ent.refl _)
          intro a h5
          rw [List.take_succ_eq_append_getElem hlt, List.mem_append, List.mem_singleton] at h5
          rcases h5 with h5 | rfl
          · exact ha a h5
          · exact ⟨c1, c2⟩
        · refine J_skip ?_
          refine seqQ_normal ?_
          refine J_seq ?_
          refine J_block ?_
          refine J_seq ?_
          refine J_region ?_
          refine L_q (Q_move rfl) rfl rfl rfl ?_
          refine L_q (Q_move rfl) rfl rfl rfl ?_
          refine L_q (Q_ixAt 0 k rfl rfl rfl rfl hlt rfl) rfl rfl rfl ?_
          refine L_q (Q_pfa rfl) rfl rfl rfl ?_
          refine L_q (Q_ldEAt 0 k 2 (v := str l[k].key) rfl rfl rfl rfl hlt (by decide) rfl) rfl rfl rfl ?_
          refine L_q (Q_slen rfl) rfl rfl rfl ?_
          refine L_q ((Q_gtr rfl rfl).as (v' := .bool false) (congrArg Value.bool (decide_eq_false (by omega)))) rfl rfl rfl ?_
          refine L_q (Q_move rfl) rfl rfl rfl ?_
          refine L_q (Q_move rfl) rfl rfl rfl ?_
          refine L_q (Q_move rfl) rfl rfl rfl ?_
          refine L_q (Q_ixAt 0 k rfl rfl rfl rfl hlt rfl) rfl rfl rfl ?_
          refine L_q (Q_pfa rfl) rfl rfl rfl ?_
          refine L_q (Q_ldEAt 0 k 3 (v := str l[k].val) rfl rfl rfl rfl hlt (by decide) rfl) rfl rfl rfl ?_
          refine L_q (Q_slen rfl) rfl rfl rfl ?_
          refine L_q ((Q_gtr rfl rfl).as (v' := .bool true) (congrArg Value.bool (decide_eq_true (by omega)))) rfl rfl rfl ?_
          refine L_q (Q_pickF rfl rfl) rfl rfl rfl ?_
          refine JL_nil ?_
          refine seqQ_normal ?_
          refine J_condT rfl ?_
          refine J_seq ?_
          refine J_region ?_
          refine L_q (Q_assign rfl) rfl rfl rfl ?_
          refine JL_nil ?_
          refine seqQ_normal ?_
          refine J_ret ?_
          refine blockQ_ret ?_
          refine seqQ_ret ?_
          refine loopQ_ret ?_
          refine blockQ_ret ?_
          refine seqQ_ret ?_
          exact retQ_ret _ [slc tDv false S l] (.cons (RV_tmp rfl) .nil) ⟨by rw [fewW_f (hno (fun h => c2 h.2))]; rfl, rfl⟩ (Ent.refl _)
      · refine J_skip ?_
        refine seqQ_normal ?_
        refine J_seq ?_
        refine J_block ?_
        refine J_seq ?_
        refine J_region ?_
        refine L_q (Q_move rfl) rfl rfl rfl ?_
        refine L_q (Q_move rfl) rfl rfl rfl ?_
        refine L_q (Q_ixAt 0 k rfl rfl rfl rfl hlt rfl) rfl rfl rfl ?_
        refine L_q (Q_pfa rfl) rfl rfl rfl ?_
        refine L_q (Q_ldEAt 0 k 2 (v := str l[k].key) rfl rfl rfl rfl hlt (by decide) rfl) rfl rfl rfl ?_
        refine L_q (Q_slen rfl) rfl rfl rfl ?_
        refine L_q ((Q_gtr rfl rfl).as (v' := .bool true) (congrArg Value.bool (decide_eq_true (by omega)))) rfl rfl rfl ?_
        refine L_q (Q_move rfl) rfl rfl rfl ?_
        refine L_n rfl rfl rfl ?_
        refine L_n rfl rfl rfl ?_
        refine L_n rfl rfl rfl ?_
        refine L_n rfl rfl rfl ?_
        refine L_n rfl rfl rfl ?_
        refine L_n rfl rfl rfl ?_
        refine L_n rfl rfl rfl ?_
        refine L_q (Q_pickT rfl rfl) rfl rfl rfl ?_
        refine JL_nil ?_
        refine seqQ_normal ?_
        refine J_condT rfl ?_
        refine J_seq ?_
        refine J_region ?_
        refine L_q (Q_assign rfl) rfl rfl rfl ?_
        refine JL_nil ?_
        refine seqQ_normal ?_
        refine J_ret ?_
        refine blockQ_ret ?_
        refine seqQ_ret ?_
        refine loopQ_ret ?_
        refine blockQ_ret ?_
        refine seqQ_ret ?_
        exact retQ_ret _ [slc tDv false S l] (.cons (RV_tmp rfl) .nil) ⟨by rw [fewW_f (hno (fun h => c1 h.1))]; rfl, rfl⟩ (Ent.refl _)
    · obtain rfl : k = l.length := by omega
      rw [List.take_length] at ha
      have e : fewV l = true := by simp [fewV]; exact ⟨by omega, fun a h => ha a h⟩
      refine J_exit ?_
      refine seqQ_exit ?_
      refine loopQ_exit ?_
      refine blockQ_hit ?_
      refine seqQ_normal ?_
      refine J_seq ?_
      refine J_region ?_
      refine L_q (Q_assign rfl) rfl rfl rfl ?_
      refine JL_nil ?_
      refine seqQ_normal ?_
      refine J_ret ?_
      exact retQ_ret _ [slc tDv false S l] (.cons (RV_tmp rfl) .nil) ⟨by rw [fewW_t e]; rfl, rfl⟩ (Ent.refl _)
theorem Rdy.slc {E : World} {S : SV} {l : List Kv} : Rdy E (slc tKv true S l) S l := fun _ _ hs => hs.rd 0 rfl
theorem rsame38_ok (E : World) (C : HProp) (S T : SV) (l : List Kv) (hS : Rdy E C S l) (hl : l.length ≤ 100000) : Does Tryz.prog E 18 [T.v, S.v] [slc tKv true T l, C] fun v L => v = .bool true ∧ L = [slc tKv true T l, C] := by
  refine Does.post (rsame_ok E (star C (slc tKv true T l)) T S l Rdy.new hS.old hl) (fun F => (show Ent [slc tKv true T l, C, F] [star C (slc tKv true T l), F] from (Ent.re [1, 0, 2] rfl).trans Ent.star_in)) ?_
  rintro v L ⟨hv, rfl⟩
  exact ⟨_, ⟨hv, rfl⟩, fun F => (show Ent [star C (slc tKv true T l), F] [slc tKv true T l, C, F] from Ent.star_out.trans (Ent.re [1, 0, 2] rfl))⟩
theorem knone_ok (E : World) (d : Dv) : Does Tryz.prog E 6 [.agg (dvV d).toArray] [] fun v L => v = .bool true ∧ L = [] := by
  obtain ⟨g, n, k, v, keep⟩ := d
  refine Does.of Tryz.func6 rfl Tryz.ntmps6 rfl rfl fun F => ?_
  refine J.norm ?_
  refine J_seq ?_
  refine J_region ?_
  refine L_o rfl rfl rfl (O_box rfl fun b1 => ?_)
  refine L_q (Q_assign rfl) rfl rfl rfl ?_
  refine JL_nil ?_
  refine seqQ_normal ?_
  refine J_seq ?_
  refine J_region ?_
  refine L_q (Q_assign rfl) rfl rfl rfl ?_
  refine JL_nil ?_
  refine seqQ_normal ?_
  refine J_seq ?_
  refine J_region ?_
  refine L_q (Q_move rfl) rfl rfl rfl ?_
  refine L_o rfl rfl rfl (O_call [] [0,1] (ksyncN_ok E) rfl rfl ?_)
  rintro _ _ ⟨rfl, rfl⟩
  refine JL.norm ?_
  refine JL_nil ?_
  refine seqQ_normal ?_
  refine J_seq ?_
  refine J_region ?_
  refine L_q (Q_move rfl) rfl rfl rfl ?_
  refine L_q (Q_fa0 rfl) rfl rfl rfl ?_
  refine L_q (Q_ld 0 rfl rfl rfl rfl) rfl rfl rfl ?_
  refine L_o rfl rfl rfl (O_call [] [0,1] (kcrashN_ok E (keep : Int)) rfl rfl ?_)
  rintro _ _ ⟨rfl, rfl⟩
  refine JL.norm ?_
  refine JL_nil ?_
  refine seqQ_normal ?_
  refine J_seq ?_
  refine J_region ?_
  refine L_q (Q_move rfl) rfl rfl rfl ?_
  refine L_q (Q_fa0 rfl) rfl rfl rfl ?_
  refine L_q (Q_ld 0 rfl rfl rfl rfl) rfl rfl rfl ?_
  refine L_o rfl rfl rfl (O_call [] [0,1] (kgetN_ok E k) rfl rfl ?_)
  rintro _ _ ⟨rfl, rfl⟩
  refine JL.norm ?_
  refine L_q (Q_move rfl) rfl rfl rfl ?_
  refine L_q (Q_extract (v := str []) rfl rfl) rfl rfl rfl ?_
  refine L_q (Q_extract (v := .int .i64 9) rfl rfl) rfl rfl rfl ?_
  refine L_q (Q_assign rfl) rfl rfl rfl ?_
  refine L_q (Q_assign rfl) rfl rfl rfl ?_
  refine JL_nil ?_
  refine seqQ_normal ?_
  refine J_seq ?_
  refine J_region ?_
  refine L_q (Q_move rfl) rfl rfl rfl ?_
  refine L_q (Q_fa0 rfl) rfl rfl rfl ?_
  refine L_q (Q_ld 0 rfl rfl rfl rfl) rfl rfl rfl ?_
  refine L_q (Q_fa0 rfl) rfl rfl rfl ?_
  refine L_q (Q_ld 0 rfl rfl rfl rfl) rfl rfl rfl ?_
  refine L_o rfl rfl rfl (O_call [] [0,1] (kputN_ok E k v) rfl rfl ?_)
  rintro _ _ ⟨rfl, rfl⟩
  refine JL.norm ?_
  refine L_q ((Q_eql rfl rfl).as (v' := .bool true) rfl) rfl rfl rfl ?_
  refine L_q (Q_move rfl) rfl rfl rfl ?_
  refine L_q (Q_move rfl) rfl rfl rfl ?_
  refine L_q (Q_fa0 rfl) rfl rfl rfl ?_
  refine L_q (Q_ld 0 rfl rfl rfl rfl) rfl rfl rfl ?_
  refine L_o rfl rfl rfl (O_call [] [0,1] (kdelN_ok E k) rfl rfl ?_)
  rintro _ _ ⟨rfl, rfl⟩
  refine JL.norm ?_
  refine L_q ((Q_eql rfl rfl).as (v' := .bool true) rfl) rfl rfl rfl ?_
  refine L_q (Q_pickT rfl rfl) rfl rfl rfl ?_
  refine L_q (Q_move rfl) rfl rfl rfl ?_
  refine L_q (Q_move rfl) rfl rfl rfl ?_
  refine L_q (Q_fa0 rfl) rfl rfl rfl ?_
  refine L_q (Q_ld 0 rfl rfl rfl rfl) rfl rfl rfl ?_
  refine L_o rfl rfl rfl (O_call [] [0,1] (kcpN_ok E n) rfl rfl ?_)
  rintro _ _ ⟨rfl, rfl⟩
  refine JL.norm ?_
  refine L_q ((Q_eql rfl rfl).as (v' := .bool true) rfl) rfl rfl rfl ?_
  refine L_q (Q_pickT rfl rfl) rfl rfl rfl ?_
  refine L_q (Q_move rfl) rfl rfl rfl ?_
  refine L_q (Q_move rfl) rfl rfl rfl ?_
  refine L_q ((Q_seql rfl rfl).as (v' := .bool true) rfl) rfl rfl rfl ?_
  refine L_q (Q_pickT rfl rfl) rfl rfl rfl ?_
  refine L_q (Q_move rfl) rfl rfl rfl ?_
  refine L_q (Q_move rfl) rfl rfl rfl ?_
  refine L_q ((Q_eql rfl rfl).as (v' := .bool true) rfl) rfl rfl rfl ?_
  refine L_q (Q_pickT rfl rfl) rfl rfl rfl ?_
  refine L_q (Q_move rfl) rfl rfl rfl ?_
  refine L_q (Q_move rfl) rfl rfl rfl ?_
  refine L_o rfl rfl rfl (O_call [] [0,1] (krangeN_ok E [] [] 9) rfl rfl ?_)
  rintro _ _ ⟨rfl, rfl⟩
  refine JL.norm ?_
  refine L_q ((Q_lenV (S := SV.nil) rfl).as (v' := .int .i64 0) rfl) rfl rfl rfl ?_
  refine L_q ((Q_eql rfl rfl).as (v' := .bool true) rfl) rfl rfl rfl ?_
  refine L_q (Q_pickT rfl rfl) rfl rfl rfl ?_
  refine L_q (Q_move rfl) rfl rfl rfl ?_
  refine L_q (Q_move rfl) rfl rfl rfl ?_
  refine L_o rfl rfl rfl (O_call [] [0,1] (kseqN_ok E) rfl rfl ?_)
  rintro _ _ ⟨rfl, rfl⟩
  refine JL.norm ?_
  refine L_q ((Q_eql rfl rfl).as (v' := .bool true) rfl) rfl rfl rfl ?_
  refine L_q (Q_pickT rfl rfl) rfl rfl rfl ?_
  refine L_q (Q_move rfl) rfl rfl rfl ?_
  refine L_q (Q_move rfl) rfl rfl rfl ?_
  refine L_o rfl rfl rfl (O_call [] [0,1] (ksureN_ok E) rfl rfl ?_)
  rintro _ _ ⟨rfl, rfl⟩
  refine JL.norm ?_
  refine L_q ((Q_eql rfl rfl).as (v' := .bool true) rfl) rfl rfl rfl ?_
  refine L_q (Q_pickT rfl rfl) rfl rfl rfl ?_
  refine L_q (Q_move rfl) rfl rfl rfl ?_
  refine L_o rfl rfl rfl (O_call [] [0,1] (awake38_ok E) rfl rfl ?_)
  rintro _ _ ⟨rfl, rfl⟩
  refine JL.norm ?_
  refine L_q (Q_pickT rfl rfl) rfl rfl rfl ?_
  refine L_q (Q_assign rfl) rfl rfl rfl ?_
  refine JL_nil ?_
  refine seqQ_normal ?_
  refine J_ret ?_
  exact retQ_ret _ [] (.cons (RV_tmp rfl) .nil) ⟨rfl, rfl⟩ (Ent.re [1] rfl)
end Go.Proofs
/- The law KvRefused: its walk. -/
set_option autoImplicit false
namespace Go.Proofs
open Go.SL Go.Proofs.Bt
section
variable {K : Kst} {base : List Kv} {n c : Nat}
theorem log_no {ch : Chg} (h : (appL K.g (chB ch)).2.2 ≠ 0) : logK K ch = K := by unfold logK; rw [if_neg h]
theorem log_yes {ch : Chg} (hI : Inv K base n c) (h : (appL K.g (chB ch)).2.2 = 0) : nextOf (logK K ch).g.fs = nextOf K.g.fs + 1 := by
  unfold logK; rw [if_pos h]
  exact (app_told hI.g.ch hI.sa h).1
theorem put_no {k v : Ky} (h : putE K k v ≠ 0) : putK K k v = K := by
  unfold putE at h; unfold putK
  split
  · rename_i hp; rw [if_pos hp] at h; exact log_no h
  · rfl
theorem put_yes {k v : Ky} (hI : Inv K base n c) (h : putE K k v = 0) : nextOf (putK K k v).g.fs = nextOf K.g.fs + 1 := by
  unfold putE at h; unfold putK
  split
  · rename_i hp; rw [if_pos hp] at h; exact log_yes hI h
  · rename_i hp; rw [if_neg hp] at h; cases h
theorem del_no {k : Ky} (h : delE K k ≠ 0) : delK K k = K := by
  unfold delE at h; unfold delK
  split
  · rename_i hp; rw [if_pos hp] at h
    split
    · rename_i hh; rw [if_pos hh] at h; exact log_no h
    · rfl
  · rfl
theorem del_yes {k : Ky} (hI : Inv K base n c) (h : delE K k = 0) : nextOf (delK K k).g.fs = nextOf K.g.fs + 1 := by
  unfold delE at h; unfold delK
  split
  · rename_i hp; rw [if_pos hp] at h
    split
    · rename_i hh; rw [if_pos hh] at h; exact log_yes hI h
    · rename_i hh; rw [if_neg hh] at h; cases h
  · rename_i hp; rw [if_neg hp] at h; cases h
theorem Inv.short (hI : Inv K [] n c) : K.t.length ≤ c := by
  have h1 := rep_len (fs := K.g.fs) (s := K.saved) (base := []) List.Pairwise.nil (nextOf K.g.fs - K.saved)
  rw [← hI.tr] at h1
  have h2 := hI.g.next
  simp only [List.length_nil] at h1
  omega
end
attribute [local irreducible] J JL QOp JOp seqQ blockQ loopQ retQ slc cel hex star pur stars Does RV Ent pAt scopeQ
attribute [local irreducible] nodeA nodeX treeA segA snapA kvA
theorem krefused_ok (E : World) (z : Int) (T : SV) (l : List Dv) : Does Tryz.prog E 5 [.int .i64 z, T.v] [slc tDv false T l] fun v L => v = .bool true ∧ L = [] := by
  have hfew := fewV_ok E T l
  refine Does.of Tryz.func5 rfl Tryz.ntmps5 rfl rfl fun F => ?_
  refine J.norm ?_
  cases hb : fewV l with
  | false =>
    rw [fewW_f hb] at hfew
    refine J_seq ?_
    refine J_region ?_
    refine L_q (Q_assign rfl) rfl rfl rfl ?_
    refine JL_nil ?_
    refine seqQ_normal ?_
    refine J_seq ?_
    refine J_seq ?_
    refine J_region ?_
    refine L_q (Q_move rfl) rfl rfl rfl ?_
    refine L_o rfl rfl rfl (O_call [0] [1] hfew rfl rfl ?_)
    rintro _ _ ⟨rfl, rfl⟩
    refine JL.norm ?_
    refine L_q ((Q_eql rfl rfl).as (v' := .bool true) rfl) rfl rfl rfl ?_
    refine JL_nil ?_
    refine seqQ_normal ?_
    refine J_condT rfl ?_
    refine J_seq ?_
    refine J_region ?_
    refine L_o rfl rfl rfl (O_call [] [0,1] (awake38_ok E) rfl rfl ?_)
    rintro _ _ ⟨rfl, rfl⟩
    refine JL.norm ?_
    refine L_q (Q_assign rfl) rfl rfl rfl ?_
    refine JL_nil ?_
    refine seqQ_normal ?_
    refine J_ret ?_
    refine seqQ_ret ?_
    exact retQ_ret _ [] (.cons (RV_tmp rfl) .nil) ⟨rfl, rfl⟩ (Ent.re [1] rfl)
  | true =>
  rw [fewW_t hb] at hfew
  have hl60 := (fewV_text hb).1
  refine J_seq ?_
  refine J_region ?_
  refine L_q (Q_assign rfl) rfl rfl rfl ?_
  refine JL_nil ?_
  refine seqQ_normal ?_
  refine J_seq ?_
  refine J_seq ?_
  refine J_region ?_
  refine L_q (Q_move rfl) rfl rfl rfl ?_
  refine L_o rfl rfl rfl (O_call [0] [1] hfew rfl rfl ?_)
  rintro _ _ ⟨rfl, rfl⟩
  refine JL.norm ?_
  refine L_q ((Q_eql rfl rfl).as (v' := .bool false) rfl) rfl rfl rfl ?_
  refine JL_nil ?_
  refine seqQ_normal ?_
  refine J_condF rfl ?_
  refine J_skip ?_
  refine seqQ_normal ?_
  refine J_seq ?_
  refine J_region ?_
  refine L_q (Q_move rfl) rfl rfl rfl ?_
  refine L_o rfl rfl rfl (O_call [] [0,1] (anew_ok E z) rfl rfl ?_)
  rintro _ _ ⟨p, rfl, rfl⟩
  refine JL.norm ?_
  refine L_q (Q_assign rfl) rfl rfl rfl ?_
  refine JL_nil ?_
  refine seqQ_normal ?_
  refine J_seq ?_
  refine J_seq ?_
  refine J_region ?_
  refine L_q (Q_assign rfl) rfl rfl rfl ?_
  refine JL_nil ?_
  refine seqQ_normal ?_
  refine J_block ?_
  refine J_loop (fun i : Nat × Kst => Inv i.2 [] 0 i.1 ∧ i.1 ≤ l.length) (fun i => [(1, T.v), (5, .pointer (some ⟨p, 0, none⟩)), (6, .int .i64 (i.1 : Int))]) (fun i => [kvA p i.2, slc tDv false T l, F]) (fun i => l.length - i.1) (0, newK z) ⟨inv_new z, Nat.zero_le _⟩ ⟨rfl, rfl, rfl, trivial⟩ (Ent.refl _) ?_
  rintro ⟨k, K⟩ ⟨hI, hk⟩
  dsimp only at hI hk ⊢
  have hsh := hI.short
  refine J_seq ?_
  refine J_seq ?_
  refine J_region ?_
  refine L_q (Q_move rfl) rfl rfl rfl ?_
  refine L_q (Q_move rfl) rfl rfl rfl ?_
  refine L_q (Q_lenAt 1 rfl rfl) rfl rfl rfl ?_
  refine L_q (Q_lss rfl rfl) rfl rfl rfl ?_
  refine JL_nil ?_
  refine seqQ_normal ?_
  refine J_condD rfl (fun h2 => ?_) (fun h2 => ?_)
  · have hlt : k < l.length := by omega
    have hrng := arange_ok E p hI [] [] 1000
    rw [rngL_all (by decide) (by omega)] at hrng
    have hseq := aseq_ok E p hI (by omega)
    refine J_skip ?_
    refine seqQ_normal ?_
    refine J_seq ?_
    refine J_block ?_
    refine J_seq ?_
    refine J_region ?_
    refine L_q (Q_move rfl) rfl rfl rfl ?_
    refine L_o rfl rfl rfl (O_call [0] [1,2] hrng rfl rfl ?_)
    rintro _ _ ⟨S, rfl, rfl⟩
    refine JL.norm ?_
    refine L_q (Q_move rfl) rfl rfl rfl ?_
    refine L_o rfl rfl rfl (O_call [0] [1,2,3] hseq rfl rfl ?_)
    rintro _ _ ⟨rfl, rfl⟩
    refine JL.norm ?_
    refine L_q (Q_assign rfl) rfl rfl rfl ?_
    refine L_q (Q_assign rfl) rfl rfl rfl ?_
    refine JL_nil ?_
    refine seqQ_normal ?_
    refine J_seq ?_
    refine J_region ?_
    refine L_q (Q_assign rfl) rfl rfl rfl ?_
    refine JL_nil ?_
    refine seqQ_normal ?_
    refine J_seq ?_
    refine J_seq ?_
    refine J_region ?_
    refine L_q (Q_move rfl) rfl rfl rfl ?_
    refine L_q (Q_move rfl) rfl rfl rfl ?_
    refine L_q (Q_ixAt 2 k rfl rfl rfl rfl hlt rfl) rfl rfl rfl ?_
    refine L_q (Q_ldEAAt 2 k 0 (vs := dvV l[k]) rfl rfl rfl rfl hlt (by decide) rfl) rfl rfl rfl ?_
    refine L_o rfl rfl rfl (O_alloc fun b10 => ?_)
    refine L_s rfl rfl (O_stW 0 rfl rfl rfl rfl ?_)
    refine JL.norm ?_
    refine JL_nil ?_
    refine seqQ_normal ?_
    refine J_seq ?_
    refine J_region ?_
    refine L_q (Q_fa0 rfl) rfl rfl rfl ?_
    refine L_q (Q_ld 0 rfl rfl rfl rfl) rfl rfl rfl ?_
    refine JL_nil ?_
    refine seqQ_normal ?_
    refine J_block ?_
    refine J_seq ?_
    refine J.cut (fun e ρ' L' => e = .normal ∧ ∃ (K2 : Kst) (e2 : Int), Inv K2 [] 0 (k + 1) ∧ (e2 ≠ 0 → K2 = K) ∧ (e2 = 0 → (l[k].kind = 0 ∨ l[k].kind = 1) → nextOf K2.g.fs = nextOf K.g.fs + 1) ∧ envSub [(1, T.v), (5, .pointer (some ⟨p, 0, none⟩)), (6, .int .i64 (k : Int)), (7, S.v), (8, .int .i64 (nextOf K.g.fs : Int)), (9, .int .i64 e2)] ρ' ∧ Ent L' [kvA p K2, slc tKv true S K.t, slc tDv false T l, F]) ?_ ?_
    · by_cases c0 : l[k].kind = 0
      · skip
        refine J_region ?_
        refine L_q ((Q_eql rfl rfl).as (v' := .bool true) (congrArg Value.bool (decide_eq_true c0))) rfl rfl rfl ?_
        refine L_q (Q_assign rfl) rfl rfl rfl ?_
        refine JL_nil ?_
        refine seqQ_normal ?_
        refine J_condT rfl ?_
        refine J_region ?_
        refine L_q (Q_move rfl) rfl rfl rfl ?_
        refine L_q (Q_fa0 rfl) rfl rfl rfl ?_
        refine L_q (Q_ld 0 rfl rfl rfl rfl) rfl rfl rfl ?_
        refine L_q (Q_fa0 rfl) rfl rfl rfl ?_
        refine L_q (Q_ld 0 rfl rfl rfl rfl) rfl rfl rfl ?_
        refine L_o rfl rfl rfl (O_call [1] [0,2,3,4] (aput_ok E p hI (by omega) l[k].key l[k].val) rfl rfl ?_)
        rintro _ _ ⟨rfl, rfl⟩
        refine JL.norm ?_
        refine L_q (Q_assign rfl) rfl rfl rfl ?_
        refine JL_nil ?_
        refine blockQ_normal ?_
        exact ⟨rfl, putK K l[k].key l[k].val, putE K l[k].key l[k].val, hI.put _ _, put_no, fun h _ => put_yes hI h, ⟨rfl, rfl, rfl, rfl, rfl, rfl, trivial⟩, Ent.re [0, 2, 3, 4] rfl⟩
      by_cases c1 : l[k].kind = 1
      · skip
        refine J_region ?_
        refine L_q ((Q_eql rfl rfl).as (v' := .bool false) (congrArg Value.bool (decide_eq_false c0))) rfl rfl rfl ?_
        refine L_q (Q_assign rfl) rfl rfl rfl ?_
        refine JL_nil ?_
        refine seqQ_normal ?_
        refine J_condF rfl ?_
        refine J_seq ?_
        refine J_region ?_
        refine L_q ((Q_eql rfl rfl).as (v' := .bool true) (congrArg Value.bool (decide_eq_true c1))) rfl rfl rfl ?_
        refine L_q (Q_assign rfl) rfl rfl rfl ?_
        refine JL_nil ?_
        refine seqQ_normal ?_
        refine J_condT rfl ?_
        refine J_region ?_
        refine L_q (Q_move rfl) rfl rfl rfl ?_
        refine L_q (Q_fa0 rfl) rfl rfl rfl ?_
        refine L_q (Q_ld 0 rfl rfl rfl rfl) rfl rfl rfl ?_
        refine L_o rfl rfl rfl (O_call [1] [0,2,3,4] (adel_ok E p hI (by omega) l[k].key) rfl rfl ?_)
        rintro _ _ ⟨rfl, rfl⟩
        refine JL.norm ?_
        refine L_q (Q_assign rfl) rfl rfl rfl ?_
        refine JL_nil ?_
        refine blockQ_normal ?_
        exact ⟨rfl, delK K l[k].key, delE K l[k].key, hI.del _, del_no, fun h _ => del_yes hI h, ⟨rfl, rfl, rfl, rfl, rfl, rfl, trivial⟩, Ent.re [0, 2, 3, 4] rfl⟩
      · skip
        refine J_region ?_
        refine L_q ((Q_eql rfl rfl).as (v' := .bool false) (congrArg Value.bool (decide_eq_false c0))) rfl rfl rfl ?_
        refine L_q (Q_assign rfl) rfl rfl rfl ?_
        refine JL_nil ?_
        refine seqQ_normal ?_
        refine J_condF rfl ?_
        refine J_seq ?_
        refine J_region ?_
        refine L_q ((Q_eql rfl rfl).as (v' := .bool false) (congrArg Value.bool (decide_eq_false c1))) rfl rfl rfl ?_
        refine L_q (Q_assign rfl) rfl rfl rfl ?_
        refine JL_nil ?_
        refine seqQ_normal ?_
        refine J_condF rfl ?_
        refine J_skip ?_
        refine blockQ_normal ?_
        exact ⟨rfl, K, 0, hI.mono (by omega), fun h => absurd rfl h, fun _ h => absurd h (by simp [c0, c1]), ⟨rfl, rfl, rfl, rfl, rfl, rfl, trivial⟩, Ent.re [1, 2, 3, 4] rfl⟩
    rintro _ ρ' L' ⟨rfl, K2, e2, hI2, hno, hyes, hsub, hent⟩
    refine seqQ_normal ?_
    refine J.sub hsub ?_
    refine J.ent hent ?_
    clear hsub hent
    have hsh2 := hI2.short
    have hn1 := hI.g.next
    have hrng2 := arange_ok E p hI2 [] [] 1000
    rw [rngL_all (by decide) (by omega)] at hrng2
    have hseq2 := aseq_ok E p hI2 (by omega)
    by_cases he : e2 = 0
    · by_cases ck : l[k].kind < 2
      · by_cases cz : l[k].kind ≥ 0
        · have hnx := hyes he (by omega)
          refine J_seq ?_
          refine J_region ?_
          refine L_q (Q_move rfl) rfl rfl rfl ?_
          refine L_q ((Q_neq rfl rfl).as (v' := .bool false) (congrArg Value.bool (decide_eq_false (by omega)))) rfl rfl rfl ?_
          refine L_q (Q_move rfl) rfl rfl rfl ?_
          refine L_n rfl rfl rfl ?_
          refine L_n rfl rfl rfl ?_
          refine L_n rfl rfl rfl ?_
          refine L_n rfl rfl rfl ?_
          refine L_n rfl rfl rfl ?_
          refine L_n rfl rfl rfl ?_
          refine L_n rfl rfl rfl ?_
          refine L_n rfl rfl rfl ?_
          refine L_n rfl rfl rfl ?_
          refine L_n rfl rfl rfl ?_
          refine L_n rfl rfl rfl ?_
          refine L_q (Q_pickF rfl rfl) rfl rfl rfl ?_
          refine L_q (Q_move rfl) rfl rfl rfl ?_
          refine L_q (Q_move rfl) rfl rfl rfl ?_
          refine L_q ((Q_eql rfl rfl).as (v' := .bool true) (congrArg Value.bool (decide_eq_true he))) rfl rfl rfl ?_
          refine L_q (Q_move rfl) rfl rfl rfl ?_
          refine L_q (Q_move rfl) rfl rfl rfl ?_
          refine L_q (Q_move rfl) rfl rfl rfl ?_
          refine L_q (Q_ixAt 2 k rfl rfl rfl rfl hlt rfl) rfl rfl rfl ?_
          refine L_q (Q_pfa rfl) rfl rfl rfl ?_
          refine L_q (Q_ldEAt 2 k 0 (v := .int .i64 l[k].kind) rfl rfl rfl rfl hlt (by decide) rfl) rfl rfl rfl ?_
          refine L_q ((Q_lss rfl rfl).as (v' := .bool true) (congrArg Value.bool (decide_eq_true ck))) rfl rfl rfl ?_
          refine L_q (Q_pickT rfl rfl) rfl rfl rfl ?_
          refine L_q (Q_move rfl) rfl rfl rfl ?_
          refine L_q (Q_move rfl) rfl rfl rfl ?_
          refine L_q (Q_move rfl) rfl rfl rfl ?_
          refine L_q (Q_ixAt 2 k rfl rfl rfl rfl hlt rfl) rfl rfl rfl ?_
          refine L_q (Q_pfa rfl) rfl rfl rfl ?_
          refine L_q (Q_ldEAt 2 k 0 (v := .int .i64 l[k].kind) rfl rfl rfl rfl hlt (by decide) rfl) rfl rfl rfl ?_
          refine L_q ((Q_geq rfl rfl).as (v' := .bool true) (congrArg Value.bool (decide_eq_true cz))) rfl rfl rfl ?_
          refine L_q (Q_pickT rfl rfl) rfl rfl rfl ?_
          refine L_q (Q_move rfl) rfl rfl rfl ?_
          refine L_q (Q_move rfl) rfl rfl rfl ?_
          refine L_o rfl rfl rfl (O_call [0] [1,2,3] hseq2 rfl rfl ?_)
          rintro _ _ ⟨rfl, rfl⟩
          refine JL.norm ?_
          refine L_q (Q_move rfl) rfl rfl rfl ?_
          refine L_q (Q_add rfl rfl (by first | exact IntWalk.i64_in _ (by omega) | exact IntWalk.u8_in _ (by omega) | exact IntWalk.u32_in _ (by omega) | exact IntWalk.u64_in _ (by omega) | rfl)) rfl rfl rfl ?_
          refine L_q ((Q_neq rfl rfl).as (v' := .bool false) (congrArg Value.bool (decide_eq_false (by omega)))) rfl rfl rfl ?_
          refine L_q (Q_pickT rfl rfl) rfl rfl rfl ?_
          refine L_q (Q_pickF rfl rfl) rfl rfl rfl ?_
          refine JL_nil ?_
          refine seqQ_normal ?_
          refine J_condF rfl ?_
          refine J_skip ?_
          refine blockQ_normal ?_
          refine seqQ_normal ?_
          refine J_region ?_
          refine L_q (Q_move rfl) rfl rfl rfl ?_
          refine L_q (Q_add rfl rfl (by first | exact IntWalk.i64_in _ (by omega) | exact IntWalk.u8_in _ (by omega) | exact IntWalk.u32_in _ (by omega) | exact IntWalk.u64_in _ (by omega) | rfl)) rfl rfl rfl ?_
          refine L_q (Q_assign rfl) rfl rfl rfl ?_
          refine JL_nil ?_
          exact loopQ_normal (k + 1, K2) ⟨hI2, hlt⟩ (by show l.length - (k + 1) < l.length - k; omega) ⟨rfl, rfl, rfl, trivial⟩ (Ent.re [0, 2, 3] rfl)
        · refine J_seq ?_
          refine J_region ?_
          refine L_q (Q_move rfl) rfl rfl rfl ?_
          refine L_q ((Q_neq rfl rfl).as (v' := .bool false) (congrArg Value.bool (decide_eq_false (by omega)))) rfl rfl rfl ?_
          refine L_q (Q_move rfl) rfl rfl rfl ?_
          refine L_n rfl rfl rfl ?_
          refine L_n rfl rfl rfl ?_
          refine L_n rfl rfl rfl ?_
          refine L_n rfl rfl rfl ?_
          refine L_n rfl rfl rfl ?_
          refine L_n rfl rfl rfl ?_
          refine L_n rfl rfl rfl ?_
          refine L_n rfl rfl rfl ?_
          refine L_n rfl rfl rfl ?_
          refine L_n rfl rfl rfl ?_
          refine L_n rfl rfl rfl ?_
          refine L_q (Q_pickF rfl rfl) rfl rfl rfl ?_
          refine L_q (Q_move rfl) rfl rfl rfl ?_
          refine L_q (Q_move rfl) rfl rfl rfl ?_
          refine L_q ((Q_eql rfl rfl).as (v' := .bool true) (congrArg Value.bool (decide_eq_true he))) rfl rfl rfl ?_
          refine L_q (Q_move rfl) rfl rfl rfl ?_
          refine L_q (Q_move rfl) rfl rfl rfl ?_
          refine L_q (Q_move rfl) rfl rfl rfl ?_
          refine L_q (Q_ixAt 2 k rfl rfl rfl rfl hlt rfl) rfl rfl rfl ?_
          refine L_q (Q_pfa rfl) rfl rfl rfl ?_
          refine L_q (Q_ldEAt 2 k 0 (v := .int .i64 l[k].kind) rfl rfl rfl rfl hlt (by decide) rfl) rfl rfl rfl ?_
          refine L_q ((Q_lss rfl rfl).as (v' := .bool true) (congrArg Value.bool (decide_eq_true ck))) rfl rfl rfl ?_
          refine L_q (Q_pickT rfl rfl) rfl rfl rfl ?_
          refine L_q (Q_move rfl) rfl rfl rfl ?_
          refine L_q (Q_move rfl) rfl rfl rfl ?_
          refine L_q (Q_move rfl) rfl rfl rfl ?_
          refine L_q (Q_ixAt 2 k rfl rfl rfl rfl hlt rfl) rfl rfl rfl ?_
          refine L_q (Q_pfa rfl) rfl rfl rfl ?_
          refine L_q (Q_ldEAt 2 k 0 (v := .int .i64 l[k].kind) rfl rfl rfl rfl hlt (by decide) rfl) rfl rfl rfl ?_
          refine L_q ((Q_geq rfl rfl).as (v' := .bool false) (congrArg Value.bool (decide_eq_false cz))) rfl rfl rfl ?_
          refine L_q (Q_pickT rfl rfl) rfl rfl rfl ?_
          refine L_q (Q_move rfl) rfl rfl rfl ?_
          refine L_n rfl rfl rfl ?_
          refine L_n rfl rfl rfl ?_
          refine L_n rfl rfl rfl ?_
          refine L_n rfl rfl rfl ?_
          refine L_n rfl rfl rfl ?_
          refine L_q (Q_pickF rfl rfl) rfl rfl rfl ?_
          refine L_q (Q_pickF rfl rfl) rfl rfl rfl ?_
          refine JL_nil ?_
          refine seqQ_normal ?_
          refine J_condF rfl ?_
          refine J_skip ?_
          refine blockQ_normal ?_
          refine seqQ_normal ?_
          refine J_region ?_
          refine L_q (Q_move rfl) rfl rfl rfl ?_
          refine L_q (Q_add rfl rfl (by first | exact IntWalk.i64_in _ (by omega) | exact IntWalk.u8_in _ (by omega) | exact IntWalk.u32_in _ (by omega) | exact IntWalk.u64_in _ (by omega) | rfl)) rfl rfl rfl ?_
          refine L_q (Q_assign rfl) rfl rfl rfl ?_
          refine JL_nil ?_
          exact loopQ_normal (k + 1, K2) ⟨hI2, hlt⟩ (by show l.length - (k + 1) < l.length - k; omega) ⟨rfl, rfl, rfl, trivial⟩ (Ent.re [0, 2, 3] rfl)
      · refine J_seq ?_
        refine J_region ?_
        refine L_q (Q_move rfl) rfl rfl rfl ?_
        refine L_q ((Q_neq rfl rfl).as (v' := .bool false) (congrArg Value.bool (decide_eq_false (by omega)))) rfl rfl rfl ?_
        refine L_q (Q_move rfl) rfl rfl rfl ?_
        refine L_n rfl rfl rfl ?_
        refine L_n rfl rfl rfl ?_
        refine L_n rfl rfl rfl ?_
        refine L_n rfl rfl rfl ?_
        refine L_n rfl rfl rfl ?_
        refine L_n rfl rfl rfl ?_
        refine L_n rfl rfl rfl ?_
        refine L_n rfl rfl rfl ?_
        refine L_n rfl rfl rfl ?_
        refine L_n rfl rfl rfl ?_
        refine L_n rfl rfl rfl ?_
        refine L_q (Q_pickF rfl rfl) rfl rfl rfl ?_
        refine L_q (Q_move rfl) rfl rfl rfl ?_
        refine L_q (Q_move rfl) rfl rfl rfl ?_
        refine L_q ((Q_eql rfl rfl).as (v' := .bool true) (congrArg Value.bool (decide_eq_true he))) rfl rfl rfl ?_
        refine L_q (Q_move rfl) rfl rfl rfl ?_
        refine L_q (Q_move rfl) rfl rfl rfl ?_
        refine L_q (Q_move rfl) rfl rfl rfl ?_
        refine L_q (Q_ixAt 2 k rfl rfl rfl rfl hlt rfl) rfl rfl rfl ?_
        refine L_q (Q_pfa rfl) rfl rfl rfl ?_
        refine L_q (Q_ldEAt 2 k 0 (v := .int .i64 l[k].kind) rfl rfl rfl rfl hlt (by decide) rfl) rfl rfl rfl ?_
        refine L_q ((Q_lss rfl rfl).as (v' := .bool false) (congrArg Value.bool (decide_eq_false ck))) rfl rfl rfl ?_
        refine L_q (Q_pickT rfl rfl) rfl rfl rfl ?_
        refine L_q (Q_move rfl) rfl rfl rfl ?_
        refine L_n rfl rfl rfl ?_
        refine L_n rfl rfl rfl ?_
        refine L_n rfl rfl rfl ?_
        refine L_n rfl rfl rfl ?_
        refine L_n rfl rfl rfl ?_
        refine L_n rfl rfl rfl ?_
        refine L_q (Q_pickF rfl rfl) rfl rfl rfl ?_
        refine L_q (Q_move rfl) rfl rfl rfl ?_
        refine L_n rfl rfl rfl ?_
        refine L_n rfl rfl rfl ?_
        refine L_n rfl rfl rfl ?_
        refine L_n rfl rfl rfl ?_
        refine L_n rfl rfl rfl ?_
        refine L_q (Q_pickF rfl rfl) rfl rfl rfl ?_
        refine L_q (Q_pickF rfl rfl) rfl rfl rfl ?_
        refine JL_nil ?_
        refine seqQ_normal ?_
        refine J_condF rfl ?_
        refine J_skip ?_
        refine blockQ_normal ?_
        refine seqQ_normal ?_
        refine J_region ?_
        refine L_q (Q_move rfl) rfl rfl rfl ?_
        refine L_q (Q_add rfl rfl (by first | exact IntWalk.i64_in _ (by omega) | exact IntWalk.u8_in _ (by omega) | exact IntWalk.u32_in _ (by omega) | exact IntWalk.u64_in _ (by omega) | rfl)) rfl rfl rfl ?_
        refine L_q (Q_assign rfl) rfl rfl rfl ?_
        refine JL_nil ?_
        exact loopQ_normal (k + 1, K2) ⟨hI2, hlt⟩ (by show l.length - (k + 1) < l.length - k; omega) ⟨rfl, rfl, rfl, trivial⟩ (Ent.re [0, 2, 3] rfl)
    · obtain rfl := hno he
      have hsm := fun S2 => rsame38_ok E (slc tKv true S K2.t) S S2 K2.t Rdy.slc (by omega)
      refine J_seq ?_
      refine J_region ?_
      refine L_q (Q_move rfl) rfl rfl rfl ?_
      refine L_q ((Q_neq rfl rfl).as (v' := .bool true) (congrArg Value.bool (decide_eq_true he))) rfl rfl rfl ?_
      refine L_q (Q_move rfl) rfl rfl rfl ?_
      refine L_q (Q_move rfl) rfl rfl rfl ?_
      refine L_o rfl rfl rfl (O_call [0] [1,2,3] hseq2 rfl rfl ?_)
      rintro _ _ ⟨rfl, rfl⟩
      refine JL.norm ?_
      refine L_q (Q_move rfl) rfl rfl rfl ?_
      refine L_q ((Q_neq rfl rfl).as (v' := .bool false) (congrArg Value.bool (decide_eq_false (by simp)))) rfl rfl rfl ?_
      refine L_q (Q_move rfl) rfl rfl rfl ?_
      refine L_q (Q_move rfl) rfl rfl rfl ?_
      refine L_o rfl rfl rfl (O_call [0] [1,2,3] hrng2 rfl rfl ?_)
      rintro _ _ ⟨S2, rfl, rfl⟩
      refine JL.norm ?_
      refine L_q (Q_move rfl) rfl rfl rfl ?_
      refine L_o rfl rfl rfl (O_call [1,2] [0,3,4] (hsm S2) rfl rfl ?_)
      rintro _ _ ⟨rfl, rfl⟩
      refine JL.norm ?_
      refine L_q ((Q_not rfl).as (v' := .bool false) rfl) rfl rfl rfl ?_
      refine L_q (Q_pickF rfl rfl) rfl rfl rfl ?_
      refine L_q (Q_pickT rfl rfl) rfl rfl rfl ?_
      refine L_q (Q_move rfl) rfl rfl rfl ?_
      refine L_q (Q_move rfl) rfl rfl rfl ?_
      refine L_q ((Q_eql rfl rfl).as (v' := .bool false) (congrArg Value.bool (decide_eq_false he))) rfl rfl rfl ?_
      refine L_q (Q_move rfl) rfl rfl rfl ?_
      refine L_n rfl rfl rfl ?_
      refine L_n rfl rfl rfl ?_
      refine L_n rfl rfl rfl ?_
      refine L_n rfl rfl rfl ?_
      refine L_n rfl rfl rfl ?_
      refine L_n rfl rfl rfl ?_
      refine L_q (Q_pickF rfl rfl) rfl rfl rfl ?_
      refine L_q (Q_move rfl) rfl rfl rfl ?_
      refine L_n rfl rfl rfl ?_
      refine L_n rfl rfl rfl ?_
      refine L_n rfl rfl rfl ?_
      refine L_n rfl rfl rfl ?_
      refine L_n rfl rfl rfl ?_
      refine L_n rfl rfl rfl ?_
      refine L_q (Q_pickF rfl rfl) rfl rfl rfl ?_
      refine L_q (Q_move rfl) rfl rfl rfl ?_
      refine L_n rfl rfl rfl ?_
      refine L_n rfl rfl rfl ?_
      refine L_n rfl rfl rfl ?_
      refine L_n rfl rfl rfl ?_
      refine L_n rfl rfl rfl ?_
      refine L_q (Q_pickF rfl rfl) rfl rfl rfl ?_
      refine L_q (Q_pickF rfl rfl) rfl rfl rfl ?_
      refine JL_nil ?_
      refine seqQ_normal ?_
      refine J_condF rfl ?_
      refine J_skip ?_
      refine blockQ_normal ?_
      refine seqQ_normal ?_
      refine J_region ?_
      refine L_q (Q_move rfl) rfl rfl rfl ?_
      refine L_q (Q_add rfl rfl (by first | exact IntWalk.i64_in _ (by omega) | exact IntWalk.u8_in _ (by omega) | exact IntWalk.u32_in _ (by omega) | exact IntWalk.u64_in _ (by omega) | rfl)) rfl rfl rfl ?_
      refine L_q (Q_assign rfl) rfl rfl rfl ?_
      refine JL_nil ?_
      exact loopQ_normal (k + 1, K2) ⟨hI2, hlt⟩ (by show l.length - (k + 1) < l.length - k; omega) ⟨rfl, rfl, rfl, trivial⟩ (Ent.re [2, 3, 4] rfl)
  · refine J_exit ?_
    refine seqQ_exit ?_
    refine loopQ_exit ?_
    refine blockQ_hit ?_
    refine seqQ_normal ?_
    refine J_seq ?_
    refine J_region ?_
    refine L_o rfl rfl rfl (O_call [] [0,1,2] (awake38_ok E) rfl rfl ?_)
    rintro _ _ ⟨rfl, rfl⟩
    refine JL.norm ?_
    refine L_q (Q_assign rfl) rfl rfl rfl ?_
    refine JL_nil ?_
    refine seqQ_normal ?_
    refine J_ret ?_
    exact retQ_ret _ [] (.cons (RV_tmp rfl) .nil) ⟨rfl, rfl⟩ (Ent.re [2] rfl)
end Go.Proofs
/- The law KvSure: its walk. -/
set_option autoImplicit false
namespace Go.Proofs
open Go.SL Go.Proofs.Bt
theorem rngL_len (l : List Kv) (f to : Ky) (most : Int) : (rngL l f to most).length ≤ l.length := by
  unfold rngL
  split
  · simp
  · have := runR_len to most (flF f l) []
    have h2 : (flF f l).length ≤ l.length := List.length_filter_le ..
    simp only [List.length_nil] at this
    omega
structure Sx where
  k : Nat
  K : Kst
  base : List Kv
  n : Nat
attribute [local irreducible] J JL QOp JOp seqQ blockQ loopQ retQ slc cel hex star pur stars Does RV Ent pAt scopeQ
attribute [local irreducible] nodeA nodeX treeA segA snapA kvA
theorem ksure38_ok (E : World) (z : Int) (T : SV) (l : List Dv) (keep : Nat) (hkeep : keep < 2 ^ 64) (hks : ∀ d ∈ l, d.keep < 2 ^ 64) : Does Tryz.prog E 4 [.int .i64 z, T.v, .int .u64 (keep : Int)] [slc tDv false T l] fun v L => v = .bool true ∧ L = [] := by
  have hfew := fewV_ok E T l
  refine Does.of Tryz.func4 rfl Tryz.ntmps4 rfl rfl fun F => ?_
  refine J.norm ?_
  cases hb : fewV l with
  | false =>
    rw [fewW_f hb] at hfew
    refine J_seq ?_
    refine J_region ?_
    refine L_q (Q_assign rfl) rfl rfl rfl ?_
    refine JL_nil ?_
    refine seqQ_normal ?_
    refine J_seq ?_
    refine J_seq ?_
    refine J_region ?_
    refine L_q (Q_move rfl) rfl rfl rfl ?_
    refine L_o rfl rfl rfl (O_call [0] [1] hfew rfl rfl ?_)
    rintro _ _ ⟨rfl, rfl⟩
    refine JL.norm ?_
    refine L_q ((Q_eql rfl rfl).as (v' := .bool true) rfl) rfl rfl rfl ?_
    refine JL_nil ?_
    refine seqQ_normal ?_
    refine J_condT rfl ?_
    refine J_seq ?_
    refine J_region ?_
    refine L_o rfl rfl rfl (O_call [] [0,1] (awake38_ok E) rfl rfl ?_)
    rintro _ _ ⟨rfl, rfl⟩
    refine JL.norm ?_
    refine L_q (Q_assign rfl) rfl rfl rfl ?_
    refine JL_nil ?_
    refine seqQ_normal ?_
    refine J_ret ?_
    refine seqQ_ret ?_
    exact retQ_ret _ [] (.cons (RV_tmp rfl) .nil) ⟨rfl, rfl⟩ (Ent.re [1] rfl)
  | true =>
  rw [fewW_t hb] at hfew
  have hl60 := (fewV_text hb).1
  refine J_seq ?_
  refine J_region ?_
  refine L_q (Q_assign rfl) rfl rfl rfl ?_
  refine JL_nil ?_
  refine seqQ_normal ?_
  refine J_seq ?_
  refine J_seq ?_
  refine J_region ?_
  refine L_q (Q_move rfl) rfl rfl rfl ?_
  refine L_o rfl rfl rfl (O_call [0] [1] hfew rfl rfl ?_)
  rintro _ _ ⟨rfl, rfl⟩
  refine JL.norm ?_
  refine L_q ((Q_eql rfl rfl).as (v' := .bool false) rfl) rfl rfl rfl ?_
  refine JL_nil ?_
  refine seqQ_normal ?_
  refine J_condF rfl ?_
  refine J_skip ?_
  refine seqQ_normal ?_
  refine J_seq ?_
  refine J_region ?_
  refine L_q (Q_move rfl) rfl rfl rfl ?_
  refine L_o rfl rfl rfl (O_call [] [0,1] (anew_ok E z) rfl rfl ?_)
  rintro _ _ ⟨p, rfl, rfl⟩
  refine JL.norm ?_
  refine L_q (Q_assign rfl) rfl rfl rfl ?_
  refine JL_nil ?_
  refine seqQ_normal ?_
  refine J_seq ?_
  refine J_seq ?_
  refine J_region ?_
  refine L_q (Q_assign rfl) rfl rfl rfl ?_
  refine JL_nil ?_
  refine seqQ_normal ?_
  refine J_block ?_
  refine J_loop (fun i : Sx => Inv i.K i.base i.n (9000 * i.k) ∧ i.n ≤ i.k ∧ i.k ≤ l.length) (fun i => [(1, T.v), (2, .int .u64 (keep : Int)), (7, .pointer (some ⟨p, 0, none⟩)), (8, .int .i64 (i.k : Int))]) (fun i => [kvA p i.K, slc tDv false T l, F]) (fun i => l.length - i.k) ⟨0, newK z, [], 0⟩ ⟨inv_new z, Nat.zero_le _, Nat.zero_le _⟩ ⟨rfl, rfl, rfl, rfl, trivial⟩ (Ent.refl _) ?_
  rintro ⟨k, K, base, n⟩ ⟨hI, hn, hk⟩
  dsimp only at hI hn hk ⊢
  refine J_seq ?_
  refine J_seq ?_
  refine J_region ?_
  refine L_q (Q_move rfl) rfl rfl rfl ?_
  refine L_q (Q_move rfl) rfl rfl rfl ?_
  refine L_q (Q_lenAt 1 rfl rfl) rfl rfl rfl ?_
  refine L_q (Q_lss rfl rfl) rfl rfl rfl ?_
  refine JL_nil ?_
  refine seqQ_normal ?_
  refine J_condD rfl (fun h2 => ?_) (fun h2 => ?_)
  · have hlt : k < l.length := by omega
    have hkp := hks l[k] (List.getElem_mem hlt)
    refine J_skip ?_
    refine seqQ_normal ?_
    refine J_seq ?_
    refine J_block ?_
    refine J_seq ?_
    refine J_region ?_
    refine L_q (Q_move rfl) rfl rfl rfl ?_
    refine L_q (Q_move rfl) rfl rfl rfl ?_
    refine L_q (Q_ixAt 1 k rfl rfl rfl rfl hlt rfl) rfl rfl rfl ?_
    refine L_q (Q_ldEAAt 1 k 0 (vs := dvV l[k]) rfl rfl rfl rfl hlt (by decide) rfl) rfl rfl rfl ?_
    refine L_o rfl rfl rfl (O_alloc fun b9 => ?_)
    refine L_s rfl rfl (O_stW 0 rfl rfl rfl rfl ?_)
    refine JL.norm ?_
    refine JL_nil ?_
    refine seqQ_normal ?_
    refine J_seq ?_
    refine J_region ?_
    refine L_q (Q_fa0 rfl) rfl rfl rfl ?_
    refine L_q (Q_ld 0 rfl rfl rfl rfl) rfl rfl rfl ?_
    refine JL_nil ?_
    refine seqQ_normal ?_
    refine J_block ?_
    refine J_seq ?_
    refine J.cut (fun e ρ' L' => e = .normal ∧ ∃ (K2 : Kst) (base2 : List Kv) (n2 : Nat), Inv K2 base2 n2 (9000 * (k + 1)) ∧ n2 ≤ k + 1 ∧ envSub [(1, T.v), (2, .int .u64 (keep : Int)), (7, .pointer (some ⟨p, 0, none⟩)), (8, .int .i64 (k : Int))] ρ' ∧ Ent L' [kvA p K2, slc tDv false T l, F]) ?_ ?_
    · by_cases c0 : l[k].kind = 0
      · skip
        refine J_region ?_
        refine L_q ((Q_eql rfl rfl).as (v' := .bool true) (congrArg Value.bool (decide_eq_true c0))) rfl rfl rfl ?_
        refine L_q (Q_assign rfl) rfl rfl rfl ?_
        refine JL_nil ?_
        refine seqQ_normal ?_
        refine J_condT rfl ?_
        refine J_region ?_
        refine L_q (Q_move rfl) rfl rfl rfl ?_
        refine L_q (Q_fa0 rfl) rfl rfl rfl ?_
        refine L_q (Q_ld 0 rfl rfl rfl rfl) rfl rfl rfl ?_
        refine L_q (Q_fa0 rfl) rfl rfl rfl ?_
        refine L_q (Q_ld 0 rfl rfl rfl rfl) rfl rfl rfl ?_
        refine L_o rfl rfl rfl (O_call [1] [0,2,3] (aput_ok E p hI (by omega) l[k].key l[k].val) rfl rfl ?_)
        rintro _ _ ⟨rfl, rfl⟩
        refine JL.norm ?_
        refine JL_nil ?_
        refine blockQ_normal ?_
        exact ⟨rfl, _, _, _, (hI.put _ _).mono (by omega), by omega, ⟨rfl, rfl, rfl, rfl, trivial⟩, Ent.re [0, 2, 3] rfl⟩
      by_cases c1 : l[k].kind = 1
      · skip
        refine J_region ?_
        refine L_q ((Q_eql rfl rfl).as (v' := .bool false) (congrArg Value.bool (decide_eq_false c0))) rfl rfl rfl ?_
        refine L_q (Q_assign rfl) rfl rfl rfl ?_
        refine JL_nil ?_
        refine seqQ_normal ?_
        refine J_condF rfl ?_
        refine J_seq ?_
        refine J_region ?_
        refine L_q ((Q_eql rfl rfl).as (v' := .bool true) (congrArg Value.bool (decide_eq_true c1))) rfl rfl rfl ?_
        refine L_q (Q_assign rfl) rfl rfl rfl ?_
        refine JL_nil ?_
        refine seqQ_normal ?_
        refine J_condT rfl ?_
        refine J_region ?_
        refine L_q (Q_move rfl) rfl rfl rfl ?_
        refine L_q (Q_fa0 rfl) rfl rfl rfl ?_
        refine L_q (Q_ld 0 rfl rfl rfl rfl) rfl rfl rfl ?_
        refine L_o rfl rfl rfl (O_call [1] [0,2,3] (adel_ok E p hI (by omega) l[k].key) rfl rfl ?_)
        rintro _ _ ⟨rfl, rfl⟩
        refine JL.norm ?_
        refine JL_nil ?_
        refine blockQ_normal ?_
        exact ⟨rfl, _, _, _, (hI.del _).mono (by omega), by omega, ⟨rfl, rfl, rfl, rfl, trivial⟩, Ent.re [0, 2, 3] rfl⟩
      by_cases c3 : l[k].kind = 3
      · obtain ⟨base2, n2, hI2, hn2, _⟩ := hI.cp l[k].n (by omega)
        refine J_region ?_
        refine L_q ((Q_eql rfl rfl).as (v' := .bool false) (congrArg Value.bool (decide_eq_false c0))) rfl rfl rfl ?_
        refine L_q (Q_assign rfl) rfl rfl rfl ?_
        refine JL_nil ?_
        refine seqQ_normal ?_
        refine J_condF rfl ?_
        refine J_seq ?_
        refine J_region ?_
        refine L_q ((Q_eql rfl rfl).as (v' := .bool false) (congrArg Value.bool (decide_eq_false c1))) rfl rfl rfl ?_
        refine L_q (Q_assign rfl) rfl rfl rfl ?_
        refine JL_nil ?_
        refine seqQ_normal ?_
        refine J_condF rfl ?_
        refine J_seq ?_
        refine J_region ?_
        refine L_q ((Q_eql rfl rfl).as (v' := .bool true) (congrArg Value.bool (decide_eq_true c3))) rfl rfl rfl ?_
        refine L_q (Q_assign rfl) rfl rfl rfl ?_
        refine JL_nil ?_
        refine seqQ_normal ?_
        refine J_condT rfl ?_
        refine J_region ?_
        refine L_q (Q_move rfl) rfl rfl rfl ?_
        refine L_q (Q_fa0 rfl) rfl rfl rfl ?_
        refine L_q (Q_ld 0 rfl rfl rfl rfl) rfl rfl rfl ?_
        refine L_o rfl rfl rfl (O_call [1] [0,2,3] (acp_ok E p hI (by omega) l[k].n) rfl rfl ?_)
        rintro _ _ ⟨rfl, rfl⟩
        refine JL.norm ?_
        refine JL_nil ?_
        refine blockQ_normal ?_
        exact ⟨rfl, _, _, _, hI2.mono (by omega), by omega, ⟨rfl, rfl, rfl, rfl, trivial⟩, Ent.re [0, 2, 3] rfl⟩
      by_cases c4 : l[k].kind = 4
      · skip
        refine J_region ?_
        refine L_q ((Q_eql rfl rfl).as (v' := .bool false) (congrArg Value.bool (decide_eq_false c0))) rfl rfl rfl ?_
        refine L_q (Q_assign rfl) rfl rfl rfl ?_
        refine JL_nil ?_
        refine seqQ_normal ?_
        refine J_condF rfl ?_
        refine J_seq ?_
        refine J_region ?_
        refine L_q ((Q_eql rfl rfl).as (v' := .bool false) (congrArg Value.bool (decide_eq_false c1))) rfl rfl rfl ?_
        refine L_q (Q_assign rfl) rfl rfl rfl ?_
        refine JL_nil ?_
        refine seqQ_normal ?_
        refine J_condF rfl ?_
        refine J_seq ?_
        refine J_region ?_
        refine L_q ((Q_eql rfl rfl).as (v' := .bool false) (congrArg Value.bool (decide_eq_false c3))) rfl rfl rfl ?_
        refine L_q (Q_assign rfl) rfl rfl rfl ?_
        refine JL_nil ?_
        refine seqQ_normal ?_
        refine J_condF rfl ?_
        refine J_seq ?_
        refine J_region ?_
        refine L_q ((Q_eql rfl rfl).as (v' := .bool true) (congrArg Value.bool (decide_eq_true c4))) rfl rfl rfl ?_
        refine L_q (Q_assign rfl) rfl rfl rfl ?_
        refine JL_nil ?_
        refine seqQ_normal ?_
        refine J_condT rfl ?_
        refine J_region ?_
        refine L_q (Q_move rfl) rfl rfl rfl ?_
        refine L_q (Q_fa0 rfl) rfl rfl rfl ?_
        refine L_q (Q_ld 0 rfl rfl rfl rfl) rfl rfl rfl ?_
        refine L_o rfl rfl rfl (O_call [1] [0,2,3] (acrash_ok E p hI (by omega) l[k].keep hkp) rfl rfl ?_)
        rintro _ _ ⟨rfl, rfl⟩
        refine JL.norm ?_
        refine JL_nil ?_
        refine blockQ_normal ?_
        exact ⟨rfl, _, _, _, (hI.crash l[k].keep).mono (by omega), by omega, ⟨rfl, rfl, rfl, rfl, trivial⟩, Ent.re [0, 2, 3] rfl⟩
      · skip
        refine J_region ?_
        refine L_q ((Q_eql rfl rfl).as (v' := .bool false) (congrArg Value.bool (decide_eq_false c0))) rfl rfl rfl ?_
        refine L_q (Q_assign rfl) rfl rfl rfl ?_
        refine JL_nil ?_
        refine seqQ_normal ?_
        refine J_condF rfl ?_
        refine J_seq ?_
        refine J_region ?_
        refine L_q ((Q_eql rfl rfl).as (v' := .bool false) (congrArg Value.bool (decide_eq_false c1))) rfl rfl rfl ?_
        refine L_q (Q_assign rfl) rfl rfl rfl ?_
        refine JL_nil ?_
        refine seqQ_normal ?_
        refine J_condF rfl ?_
        refine J_seq ?_
        refine J_region ?_
        refine L_q ((Q_eql rfl rfl).as (v' := .bool false) (congrArg Value.bool (decide_eq_false c3))) rfl rfl rfl ?_
        refine L_q (Q_assign rfl) rfl rfl rfl ?_
        refine JL_nil ?_
        refine seqQ_normal ?_
        refine J_condF rfl ?_
        refine J_seq ?_
        refine J_region ?_
        refine L_q ((Q_eql rfl rfl).as (v' := .bool false) (congrArg Value.bool (decide_eq_false c4))) rfl rfl rfl ?_
        refine L_q (Q_assign rfl) rfl rfl rfl ?_
        refine JL_nil ?_
        refine seqQ_normal ?_
        refine J_condF rfl ?_
        refine J_skip ?_
        refine blockQ_normal ?_
        exact ⟨rfl, _, _, _, hI.mono (by omega), by omega, ⟨rfl, rfl, rfl, rfl, trivial⟩, Ent.re [1, 2, 3] rfl⟩
    rintro _ ρ' L' ⟨rfl, K2, base2, n2, hI2, hn2, hsub, hent⟩
    refine blockQ_normal ?_
    refine seqQ_normal ?_
    refine J.sub hsub ?_
    refine J.ent hent ?_
    clear hsub hent
    refine J_region ?_
    refine L_q (Q_move rfl) rfl rfl rfl ?_
    refine L_q (Q_add rfl rfl (by first | exact IntWalk.i64_in _ (by omega) | exact IntWalk.u8_in _ (by omega) | exact IntWalk.u32_in _ (by omega) | exact IntWalk.u64_in _ (by omega) | rfl)) rfl rfl rfl ?_
    refine L_q (Q_assign rfl) rfl rfl rfl ?_
    refine JL_nil ?_
    exact loopQ_normal ⟨k + 1, K2, base2, n2⟩ ⟨hI2, hn2, hlt⟩ (by show l.length - (k + 1) < l.length - k; omega) ⟨rfl, rfl, rfl, rfl, trivial⟩ (Ent.refl _)
  · have hs := hI.sync
    obtain ⟨g1, g2, g3⟩ := hI.again keep
    have hc := hs.crash keep
    have hx : nextOf (syncL K.g).fs = nextOf K.g.fs := sync_next K.g
    have has := async_ok E p hI (by omega)
    have hr1 := arange_ok E p hs [] [] 1000
    have hq1 := aseq_ok E p hs (by omega)
    rw [show nextOf (syncK K).g.fs = nextOf K.g.fs from hx] at hq1
    have hcr := acrash_ok E p hs (by omega) keep hkeep
    have hr2 := arange_ok E p hc [] [] 1000
    rw [g1] at hr2
    have hq2 := aseq_ok E p hc (by omega)
    rw [g2] at hq2
    have hu2 := asure_ok E p (K := crashK (syncK K) base keep)
    have hsn := hs.sn
    rw [show nextOf (syncK K).g.fs = nextOf K.g.fs from hx] at hsn
    rw [g3, show max (nextOf K.g.fs) (crashK (syncK K) base keep).saved = nextOf K.g.fs from Nat.max_eq_left hsn] at hu2
    have hlen := hI.len
    have hrl := rngL_len K.t [] [] 1000
    have hst : (syncK K).t = K.t := rfl
    rw [hst] at hr1
    generalize rngL K.t [] [] 1000 = m at *
    have hsm := fun S S2 => rsame38_ok E (slc tKv true S m) S S2 m Rdy.slc (by omega)
    generalize crashK (syncK K) base keep = K3 at *
    generalize syncK K = K2 at *
    refine J_exit ?_
    refine seqQ_exit ?_
    refine loopQ_exit ?_
    refine blockQ_hit ?_
    refine seqQ_normal ?_
    refine J_seq ?_
    refine J_region ?_
    refine L_q (Q_move rfl) rfl rfl rfl ?_
    refine L_o rfl rfl rfl (O_call [0] [1,2] has rfl rfl ?_)
    rintro _ _ ⟨rfl, rfl⟩
    refine JL.norm ?_
    refine JL_nil ?_
    refine seqQ_normal ?_
    refine J_seq ?_
    refine J_region ?_
    refine L_q (Q_move rfl) rfl rfl rfl ?_
    refine L_o rfl rfl rfl (O_call [0] [1,2] hr1 rfl rfl ?_)
    rintro _ _ ⟨S, rfl, rfl⟩
    refine JL.norm ?_
    refine L_q (Q_move rfl) rfl rfl rfl ?_
    refine L_o rfl rfl rfl (O_call [0] [1,2,3] hq1 rfl rfl ?_)
    rintro _ _ ⟨rfl, rfl⟩
    refine JL.norm ?_
    refine L_q (Q_assign rfl) rfl rfl rfl ?_
    refine L_q (Q_assign rfl) rfl rfl rfl ?_
    refine JL_nil ?_
    refine seqQ_normal ?_
    refine J_seq ?_
    refine J_region ?_
    refine L_q (Q_move rfl) rfl rfl rfl ?_
    refine L_q (Q_move rfl) rfl rfl rfl ?_
    refine L_o rfl rfl rfl (O_call [0] [1,2,3] hcr rfl rfl ?_)
    rintro _ _ ⟨rfl, rfl⟩
    refine JL.norm ?_
    refine JL_nil ?_
    refine seqQ_normal ?_
    refine J_seq ?_
    refine J_region ?_
    refine L_q (Q_move rfl) rfl rfl rfl ?_
    refine L_o rfl rfl rfl (O_call [0] [1,2,3] hr2 rfl rfl ?_)
    rintro _ _ ⟨S2, rfl, rfl⟩
    refine JL.norm ?_
    refine L_q (Q_move rfl) rfl rfl rfl ?_
    refine L_o rfl rfl rfl (O_call [1,2] [0,3,4] (hsm S S2) rfl rfl ?_)
    rintro _ _ ⟨rfl, rfl⟩
    refine JL.norm ?_
    refine L_q (Q_move rfl) rfl rfl rfl ?_
    refine L_q (Q_move rfl) rfl rfl rfl ?_
    refine L_o rfl rfl rfl (O_call [2] [0,1,3,4] hq2 rfl rfl ?_)
    rintro _ _ ⟨rfl, rfl⟩
    refine JL.norm ?_
    refine L_q (Q_move rfl) rfl rfl rfl ?_
    refine L_q ((Q_eql rfl rfl).as (v' := .bool true) (congrArg Value.bool (decide_eq_true rfl))) rfl rfl rfl ?_
    refine L_q (Q_pickT rfl rfl) rfl rfl rfl ?_
    refine L_q (Q_move rfl) rfl rfl rfl ?_
    refine L_q (Q_move rfl) rfl rfl rfl ?_
    refine L_o rfl rfl rfl (O_call [0] [1,2,3,4] hu2 rfl rfl ?_)
    rintro _ _ ⟨rfl, rfl⟩
    refine JL.norm ?_
    refine L_q (Q_move rfl) rfl rfl rfl ?_
    refine L_q ((Q_eql rfl rfl).as (v' := .bool true) (congrArg Value.bool (decide_eq_true rfl))) rfl rfl rfl ?_
    refine L_q (Q_pickT rfl rfl) rfl rfl rfl ?_
    refine L_q (Q_move rfl) rfl rfl rfl ?_
    refine L_o rfl rfl rfl (O_call [] [0,1,2,3,4] (awake38_ok E) rfl rfl ?_)
    rintro _ _ ⟨rfl, rfl⟩
    refine JL.norm ?_
    refine L_q (Q_pickT rfl rfl) rfl rfl rfl ?_
    refine L_q (Q_assign rfl) rfl rfl rfl ?_
    refine JL_nil ?_
    refine seqQ_normal ?_
    refine J_ret ?_
    exact retQ_ret _ [] (.cons (RV_tmp rfl) .nil) ⟨rfl, rfl⟩ (Ent.re [4] rfl)
end Go.Proofs
