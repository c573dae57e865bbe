/- Deeds on a log: how they lie in cells; are they few? -/
import Derived.Test.YtogjhcelmbhooaaAw35
set_option autoImplicit false
namespace Go.Proofs
open Go.SL
structure Ds where
  kind : Int
  n : Int
  text : List UInt8
  keep : Nat
def dsV (d : Ds) : List Value := [.int .i64 d.kind, .int .i64 d.n, str d.text, .int .u64 (d.keep : Int)]
def tDs : Ty Ds := ⟨33, 4, dsV, fun _ => rfl, by decide, fun a v hv => by simp [dsV] at hv; rcases hv with rfl | rfl | rfl | rfl <;> rfl⟩
instance : TyI Try.prog tDs.e 4 (.agg #[.int .i64 0, .int .i64 0, .string ⟨#[]⟩, .int .u64 0]) 40 := inferInstanceAs (TyI Try.prog 33 4 (.agg #[.int .i64 0, .int .i64 0, .string ⟨#[]⟩, .int .u64 0]) 40)
instance : TyU Try.prog 22 (.slice tDs.e) := inferInstanceAs (TyU Try.prog 22 (.slice 33))
def fewD (l : List Ds) : Bool := decide (l.length ≤ 60) && l.all fun d => decide (d.text.length ≤ 9000)
def fewN (l : List Ds) : Int := if fewD l = true then 1 else 0
theorem fewN_f {l : List Ds} (h : fewD l = false) : fewN l = 0 := by unfold fewN; rw [h]; rfl
theorem fewN_t {l : List Ds} (h : fewD l = true) : fewN l = 1 := by unfold fewN; rw [h]; rfl
theorem fewD_text {l : List Ds} (h : fewD l = true) : l.length ≤ 60 ∧ ∀ d ∈ l, d.text.length ≤ 9000 := by
  simpa [fewD] using h
attribute [local irreducible] J JL QOp JOp seqQ blockQ loopQ retQ slc cel hex star pur stars Does RV Ent pAt scopeQ
theorem fewD_ok (E : World) (S : SV) (l : List Ds) : Does Try.prog E 8 [S.v] [slc tDs false S l] fun v L => v = .int .i64 (fewN l) ∧ L = [slc tDs false S l] := by
  refine Does.of Try.func8 rfl Try.ntmps8 rfl rfl fun F => ?_
  refine J.norm ?_
  refine J_seq ?_
  refine J_region ?_
  refine L_q (Q_assign rfl) rfl rfl rfl ?_
  refine JL_nil ?_
  refine seqQ_normal ?_
  refine J_seq ?_
  refine J_seq ?_
  refine J_region ?_
  refine L_q (Q_move rfl) rfl rfl rfl ?_
  refine L_q (Q_lenAt 0 rfl rfl) rfl rfl rfl ?_
  refine L_q (Q_gtr rfl rfl) rfl rfl rfl ?_
  refine JL_nil ?_
  refine seqQ_normal ?_
  refine J_condD rfl (fun h => ?_) (fun h => ?_)
  · refine J_seq ?_
    refine J_region ?_
    refine L_q (Q_assign rfl) rfl rfl rfl ?_
    refine JL_nil ?_
    refine seqQ_normal ?_
    refine J_ret ?_
    refine seqQ_ret ?_
    exact retQ_ret _ [slc tDs false S l] (.cons (RV_tmp rfl) .nil) ⟨by rw [fewN_f (by simp [fewD]; omega)]; rfl, rfl⟩ (Ent.refl _)
  · refine J_skip ?_
    refine seqQ_normal ?_
    refine J_seq ?_
    refine J_seq ?_
    refine J_region ?_
    refine L_q (Q_assign rfl) rfl rfl rfl ?_
    refine JL_nil ?_
    refine seqQ_normal ?_
    refine J_block ?_
    refine J_loop (fun k => k ≤ l.length ∧ ∀ a ∈ l.take k, a.text.length ≤ 9000) (fun k => [(0, S.v), (3, .int .i64 (k : Int))]) (fun _ => [slc tDs false S l, F]) (fun k => l.length - k) 0 ⟨by simp, by simp⟩ ⟨rfl, rfl, trivial⟩ (Ent.refl _) ?_
    rintro k ⟨hk, ha⟩
    refine J_seq ?_
    refine J_seq ?_
    refine J_region ?_
    refine L_q (Q_move rfl) rfl rfl rfl ?_
    refine L_q (Q_move rfl) rfl rfl rfl ?_
    refine L_q (Q_lenAt 0 rfl rfl) rfl rfl rfl ?_
    refine L_q (Q_lss rfl rfl) rfl rfl rfl ?_
    refine JL_nil ?_
    refine seqQ_normal ?_
    refine J_condD rfl (fun h2 => ?_) (fun h2 => ?_)
    · have hlt : k < l.length := by omega
      refine J_skip ?_
      refine seqQ_normal ?_
      refine J_seq ?_
      refine J_block ?_
      refine J_seq ?_
      refine J_region ?_
      refine L_q (Q_move rfl) rfl rfl rfl ?_
      refine L_q (Q_move rfl) rfl rfl rfl ?_
      refine L_q (Q_ixAt 0 k rfl rfl rfl rfl hlt rfl) rfl rfl rfl ?_
      refine L_q (Q_pfa rfl) rfl rfl rfl ?_
      refine L_q (Q_ldEAt 0 k 2 (v := str l[k].text) rfl rfl rfl rfl hlt (by decide) rfl) rfl rfl rfl ?_
      refine L_q (Q_slen rfl) rfl rfl rfl ?_
      refine L_q (Q_gtr rfl rfl) rfl rfl rfl ?_
      refine JL_nil ?_
      refine seqQ_normal ?_
      refine J_condD rfl (fun h3 => ?_) (fun h3 => ?_)
      · refine J_seq ?_
        refine J_region ?_
        refine L_q (Q_assign rfl) rfl rfl rfl ?_
        refine JL_nil ?_
        refine seqQ_normal ?_
        refine J_ret ?_
        refine blockQ_ret ?_
        refine seqQ_ret ?_
        refine loopQ_ret ?_
        refine blockQ_ret ?_
        refine seqQ_ret ?_
        have e : fewD l = false := by
          cases hf : fewD l with
          | false => rfl
          | true => have := (fewD_text hf).2 l[k] (List.getElem_mem hlt); omega
        exact retQ_ret _ [slc tDs false S l] (.cons (RV_tmp rfl) .nil) ⟨by rw [fewN_f e]; rfl, rfl⟩ (Ent.refl _)
      · refine J_skip ?_
        refine blockQ_normal ?_
        refine seqQ_normal ?_
        refine J_region ?_
        refine L_q (Q_move rfl) rfl rfl rfl ?_
        refine L_q (Q_add rfl rfl (by first | exact IntWalk.i64_in _ (by omega) | exact IntWalk.u8_in _ (by omega) | exact IntWalk.u32_in _ (by omega) | exact IntWalk.u64_in _ (by omega) | rfl)) rfl rfl rfl ?_
        refine L_q (Q_assign rfl) rfl rfl rfl ?_
        refine JL_nil ?_
        refine loopQ_normal (k + 1) ⟨hlt, ?_⟩ (by omega) ⟨rfl, rfl, trivial⟩ (Ent.refl _)
        intro a h5
        rw [List.take_succ_eq_append_getElem hlt, List.mem_append, List.mem_singleton] at h5
        rcases h5 with h5 | rfl
        · exact ha a h5
        · omega
    · obtain rfl : k = l.length := by omega
      rw [List.take_length] at ha
      have e : fewD l = true := by simp [fewD]; exact ⟨by omega, ha⟩
      refine J_exit ?_
      refine seqQ_exit ?_
      refine loopQ_exit ?_
      refine blockQ_hit ?_
      refine seqQ_normal ?_
      refine J_seq ?_
      refine J_region ?_
      refine L_q (Q_assign rfl) rfl rfl rfl ?_
      refine JL_nil ?_
      refine seqQ_normal ?_
      refine J_ret ?_
      exact retQ_ret _ [slc tDs false S l] (.cons (RV_tmp rfl) .nil) ⟨by rw [fewN_t e]; rfl, rfl⟩ (Ent.refl _)
end Go.Proofs
