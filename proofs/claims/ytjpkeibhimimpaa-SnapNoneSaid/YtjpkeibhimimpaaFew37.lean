/- Deeds: how they lie in cells; are they few? -/
import Derived.Test.YtjpkeibhimimpaaAw37
set_option autoImplicit false
namespace Go.Proofs
open Go.SL
structure De where
  slot : Int
  n : Int
  by' : Int
  body : List UInt8
def deV (d : De) : List Value := [.int .i64 d.slot, .int .i64 d.n, .int .i64 d.by', str d.body]
def tDe : Ty De := ⟨30, 4, deV, fun _ => rfl, by decide, fun a v hv => by simp [deV] at hv; rcases hv with rfl | rfl | rfl | rfl <;> rfl⟩
instance : TyI Try.prog tDe.e 4 (.agg #[.int .i64 0, .int .i64 0, .int .i64 0, .string ⟨#[]⟩]) 40 := inferInstanceAs (TyI Try.prog 30 4 (.agg #[.int .i64 0, .int .i64 0, .int .i64 0, .string ⟨#[]⟩]) 40)
instance : TyU Try.prog 22 (.slice tDe.e) := inferInstanceAs (TyU Try.prog 22 (.slice 30))
def fewB (l : List De) : Bool := decide (l.length ≤ 40) && l.all fun d => decide (d.body.length ≤ 40000)
theorem few_text {l : List De} (h : fewB l = true) : l.length ≤ 40 ∧ ∀ d ∈ l, d.body.length ≤ 40000 := by
  simpa [fewB] using h
attribute [local irreducible] J JL QOp JOp seqQ blockQ loopQ retQ slc cel hex star pur stars Does RV Ent pAt
theorem few_ok (E : World) (S : SV) (l : List De) : Does Try.prog E 8 [S.v] [slc tDe false S l] fun v L => v = .bool (fewB l) ∧ L = [slc tDe false S l] := by
  refine Does.of Try.func8 rfl Try.ntmps8 rfl rfl fun F => ?_
  refine J.norm ?_
  repeat first
    | refine J_seq ?_
    | refine seqQ_normal ?_
    | refine J_condT rfl ?_
    | refine J_condF rfl ?_
    | refine J_block ?_
    | refine blockQ_normal ?_
    | refine J_exit ?_
    | refine seqQ_exit ?_
    | refine blockQ_hit ?_
    | refine blockQ_miss rfl ?_
    | refine J_skip ?_
    | refine J_ret ?_
    | refine seqQ_ret ?_
    | refine blockQ_ret ?_
    | refine loopQ_exit ?_
    | refine loopQ_ret ?_
    | refine J_label ?_
  refine J_region ?_
  refine L_q (Q_assign rfl) rfl rfl rfl ?_
  refine JL_nil ?_
  repeat first
    | refine J_seq ?_
    | refine seqQ_normal ?_
    | refine J_condT rfl ?_
    | refine J_condF rfl ?_
    | refine J_block ?_
    | refine blockQ_normal ?_
    | refine J_exit ?_
    | refine seqQ_exit ?_
    | refine blockQ_hit ?_
    | refine blockQ_miss rfl ?_
    | refine J_skip ?_
    | refine J_ret ?_
    | refine seqQ_ret ?_
    | refine blockQ_ret ?_
    | refine loopQ_exit ?_
    | refine loopQ_ret ?_
    | refine J_label ?_
  repeat first
    | refine J_seq ?_
    | refine seqQ_normal ?_
    | refine J_condT rfl ?_
    | refine J_condF rfl ?_
    | refine J_block ?_
    | refine blockQ_normal ?_
    | refine J_exit ?_
    | refine seqQ_exit ?_
    | refine blockQ_hit ?_
    | refine blockQ_miss rfl ?_
    | refine J_skip ?_
    | refine J_ret ?_
    | refine seqQ_ret ?_
    | refine blockQ_ret ?_
    | refine loopQ_exit ?_
    | refine loopQ_ret ?_
    | refine J_label ?_
  refine J_region ?_
  refine L_q (Q_move rfl) rfl rfl rfl ?_
  first
    | refine L_q (Q_lenAt 0 rfl rfl) rfl rfl rfl ?_
    | refine L_q (Q_lenAt 1 rfl rfl) rfl rfl rfl ?_
    | refine L_q (Q_lenAt 2 rfl rfl) rfl rfl rfl ?_
    | refine L_q (Q_lenAt 3 rfl rfl) rfl rfl rfl ?_
    | refine L_q (Q_lenAt 4 rfl rfl) rfl rfl rfl ?_
  refine L_q (Q_gtr rfl rfl) rfl rfl rfl ?_
  refine JL_nil ?_
  repeat first
    | refine J_seq ?_
    | refine seqQ_normal ?_
    | refine J_condT rfl ?_
    | refine J_condF rfl ?_
    | refine J_block ?_
    | refine blockQ_normal ?_
    | refine J_exit ?_
    | refine seqQ_exit ?_
    | refine blockQ_hit ?_
    | refine blockQ_miss rfl ?_
    | refine J_skip ?_
    | refine J_ret ?_
    | refine seqQ_ret ?_
    | refine blockQ_ret ?_
    | refine loopQ_exit ?_
    | refine loopQ_ret ?_
    | refine J_label ?_
  refine J_condD rfl (fun h => ?_) (fun h => ?_)
  · repeat first
      | refine J_seq ?_
      | refine seqQ_normal ?_
      | refine J_condT rfl ?_
      | refine J_condF rfl ?_
      | refine J_block ?_
      | refine blockQ_normal ?_
      | refine J_exit ?_
      | refine seqQ_exit ?_
      | refine blockQ_hit ?_
      | refine blockQ_miss rfl ?_
      | refine J_skip ?_
      | refine J_ret ?_
      | refine seqQ_ret ?_
      | refine blockQ_ret ?_
      | refine loopQ_exit ?_
      | refine loopQ_ret ?_
      | refine J_label ?_
    refine J_region ?_
    refine L_q (Q_assign rfl) rfl rfl rfl ?_
    refine JL_nil ?_
    repeat first
      | refine J_seq ?_
      | refine seqQ_normal ?_
      | refine J_condT rfl ?_
      | refine J_condF rfl ?_
      | refine J_block ?_
      | refine blockQ_normal ?_
      | refine J_exit ?_
      | refine seqQ_exit ?_
      | refine blockQ_hit ?_
      | refine blockQ_miss rfl ?_
      | refine J_skip ?_
      | refine J_ret ?_
      | refine seqQ_ret ?_
      | refine blockQ_ret ?_
      | refine loopQ_exit ?_
      | refine loopQ_ret ?_
      | refine J_label ?_
    exact retQ_ret _ [slc tDe false S l] (.cons (RV_tmp rfl) .nil) ⟨by rw [show fewB l = false by simp [fewB]; omega]; rfl, rfl⟩ (Ent.refl _)
  · repeat first
      | refine J_seq ?_
      | refine seqQ_normal ?_
      | refine J_condT rfl ?_
      | refine J_condF rfl ?_
      | refine J_block ?_
      | refine blockQ_normal ?_
      | refine J_exit ?_
      | refine seqQ_exit ?_
      | refine blockQ_hit ?_
      | refine blockQ_miss rfl ?_
      | refine J_skip ?_
      | refine J_ret ?_
      | refine seqQ_ret ?_
      | refine blockQ_ret ?_
      | refine loopQ_exit ?_
      | refine loopQ_ret ?_
      | refine J_label ?_
    refine J_region ?_
    refine L_q (Q_assign rfl) rfl rfl rfl ?_
    refine JL_nil ?_
    repeat first
      | refine J_seq ?_
      | refine seqQ_normal ?_
      | refine J_condT rfl ?_
      | refine J_condF rfl ?_
      | refine J_block ?_
      | refine blockQ_normal ?_
      | refine J_exit ?_
      | refine seqQ_exit ?_
      | refine blockQ_hit ?_
      | refine blockQ_miss rfl ?_
      | refine J_skip ?_
      | refine J_ret ?_
      | refine seqQ_ret ?_
      | refine blockQ_ret ?_
      | refine loopQ_exit ?_
      | refine loopQ_ret ?_
      | refine J_label ?_
    refine J_loop (fun k => k ≤ l.length ∧ ∀ a ∈ l.take k, a.body.length ≤ 40000) (fun k => [(0, S.v), (3, .int .i64 (k : Int))]) (fun _ => [slc tDe false S l, F]) (fun k => l.length - k) 0 ⟨by simp, by simp⟩ ⟨rfl, rfl, trivial⟩ (Ent.refl _) ?_
    rintro k ⟨hk, ha⟩
    repeat first
      | refine J_seq ?_
      | refine seqQ_normal ?_
      | refine J_condT rfl ?_
      | refine J_condF rfl ?_
      | refine J_block ?_
      | refine blockQ_normal ?_
      | refine J_exit ?_
      | refine seqQ_exit ?_
      | refine blockQ_hit ?_
      | refine blockQ_miss rfl ?_
      | refine J_skip ?_
      | refine J_ret ?_
      | refine seqQ_ret ?_
      | refine blockQ_ret ?_
      | refine loopQ_exit ?_
      | refine loopQ_ret ?_
      | refine J_label ?_
    refine J_region ?_
    refine L_q (Q_move rfl) rfl rfl rfl ?_
    refine L_q (Q_move rfl) rfl rfl rfl ?_
    first
      | refine L_q (Q_lenAt 0 rfl rfl) rfl rfl rfl ?_
      | refine L_q (Q_lenAt 1 rfl rfl) rfl rfl rfl ?_
      | refine L_q (Q_lenAt 2 rfl rfl) rfl rfl rfl ?_
      | refine L_q (Q_lenAt 3 rfl rfl) rfl rfl rfl ?_
      | refine L_q (Q_lenAt 4 rfl rfl) rfl rfl rfl ?_
    refine L_q (Q_lss rfl rfl) rfl rfl rfl ?_
    refine JL_nil ?_
    repeat first
      | refine J_seq ?_
      | refine seqQ_normal ?_
      | refine J_condT rfl ?_
      | refine J_condF rfl ?_
      | refine J_block ?_
      | refine blockQ_normal ?_
      | refine J_exit ?_
      | refine seqQ_exit ?_
      | refine blockQ_hit ?_
      | refine blockQ_miss rfl ?_
      | refine J_skip ?_
      | refine J_ret ?_
      | refine seqQ_ret ?_
      | refine blockQ_ret ?_
      | refine loopQ_exit ?_
      | refine loopQ_ret ?_
      | refine J_label ?_
    refine J_condD rfl (fun h2 => ?_) (fun h2 => ?_)
    · have hlt : k < l.length := by omega
      repeat first
        | refine J_seq ?_
        | refine seqQ_normal ?_
        | refine J_condT rfl ?_
        | refine J_condF rfl ?_
        | refine J_block ?_
        | refine blockQ_normal ?_
        | refine J_exit ?_
        | refine seqQ_exit ?_
        | refine blockQ_hit ?_
        | refine blockQ_miss rfl ?_
        | refine J_skip ?_
        | refine J_ret ?_
        | refine seqQ_ret ?_
        | refine blockQ_ret ?_
        | refine loopQ_exit ?_
        | refine loopQ_ret ?_
        | refine J_label ?_
      refine J_region ?_
      refine L_q (Q_move rfl) rfl rfl rfl ?_
      refine L_q (Q_move rfl) rfl rfl rfl ?_
      refine L_q (Q_ixAt 0 k rfl rfl rfl rfl hlt rfl) rfl rfl rfl ?_
      refine L_q (Q_pfa rfl) rfl rfl rfl ?_
      refine L_q (Q_ldEAt 0 k 3 (v := str l[k].body) rfl rfl rfl rfl hlt (by decide) rfl) rfl rfl rfl ?_
      refine L_q (Q_slen rfl) rfl rfl rfl ?_
      refine L_q (Q_gtr rfl rfl) rfl rfl rfl ?_
      refine JL_nil ?_
      repeat first
        | refine J_seq ?_
        | refine seqQ_normal ?_
        | refine J_condT rfl ?_
        | refine J_condF rfl ?_
        | refine J_block ?_
        | refine blockQ_normal ?_
        | refine J_exit ?_
        | refine seqQ_exit ?_
        | refine blockQ_hit ?_
        | refine blockQ_miss rfl ?_
        | refine J_skip ?_
        | refine J_ret ?_
        | refine seqQ_ret ?_
        | refine blockQ_ret ?_
        | refine loopQ_exit ?_
        | refine loopQ_ret ?_
        | refine J_label ?_
      refine J_condD rfl (fun h3 => ?_) (fun h3 => ?_)
      · repeat first
          | refine J_seq ?_
          | refine seqQ_normal ?_
          | refine J_condT rfl ?_
          | refine J_condF rfl ?_
          | refine J_block ?_
          | refine blockQ_normal ?_
          | refine J_exit ?_
          | refine seqQ_exit ?_
          | refine blockQ_hit ?_
          | refine blockQ_miss rfl ?_
          | refine J_skip ?_
          | refine J_ret ?_
          | refine seqQ_ret ?_
          | refine blockQ_ret ?_
          | refine loopQ_exit ?_
          | refine loopQ_ret ?_
          | refine J_label ?_
        refine J_region ?_
        refine L_q (Q_assign rfl) rfl rfl rfl ?_
        refine JL_nil ?_
        repeat first
          | refine J_seq ?_
          | refine seqQ_normal ?_
          | refine J_condT rfl ?_
          | refine J_condF rfl ?_
          | refine J_block ?_
          | refine blockQ_normal ?_
          | refine J_exit ?_
          | refine seqQ_exit ?_
          | refine blockQ_hit ?_
          | refine blockQ_miss rfl ?_
          | refine J_skip ?_
          | refine J_ret ?_
          | refine seqQ_ret ?_
          | refine blockQ_ret ?_
          | refine loopQ_exit ?_
          | refine loopQ_ret ?_
          | refine J_label ?_
        have e : fewB l = false := by
          cases hf : fewB l with
          | false => rfl
          | true => have := (few_text hf).2 l[k] (List.getElem_mem hlt); omega
        exact retQ_ret _ [slc tDe false S l] (.cons (RV_tmp rfl) .nil) ⟨by rw [e]; rfl, rfl⟩ (Ent.refl _)
      · repeat first
          | refine J_seq ?_
          | refine seqQ_normal ?_
          | refine J_condT rfl ?_
          | refine J_condF rfl ?_
          | refine J_block ?_
          | refine blockQ_normal ?_
          | refine J_exit ?_
          | refine seqQ_exit ?_
          | refine blockQ_hit ?_
          | refine blockQ_miss rfl ?_
          | refine J_skip ?_
          | refine J_ret ?_
          | refine seqQ_ret ?_
          | refine blockQ_ret ?_
          | refine loopQ_exit ?_
          | refine loopQ_ret ?_
          | refine J_label ?_
        refine J_region ?_
        refine L_q (Q_move rfl) rfl rfl rfl ?_
        refine L_q (Q_add rfl rfl (by first | exact IntWalk.i64_in _ (by omega) | exact IntWalk.u8_in _ (by omega) | exact IntWalk.u32_in _ (by omega) | exact IntWalk.u64_in _ (by omega) | rfl)) rfl rfl rfl ?_
        refine L_q (Q_assign rfl) rfl rfl rfl ?_
        refine JL_nil ?_
        repeat first
          | refine J_seq ?_
          | refine seqQ_normal ?_
          | refine J_condT rfl ?_
          | refine J_condF rfl ?_
          | refine J_block ?_
          | refine blockQ_normal ?_
          | refine J_exit ?_
          | refine seqQ_exit ?_
          | refine blockQ_hit ?_
          | refine blockQ_miss rfl ?_
          | refine J_skip ?_
          | refine J_ret ?_
          | refine seqQ_ret ?_
          | refine blockQ_ret ?_
          | refine loopQ_exit ?_
          | refine loopQ_ret ?_
          | refine J_label ?_
        refine loopQ_normal (k + 1) ⟨hlt, ?_⟩ (by omega) ⟨rfl, rfl, trivial⟩ (Ent.refl _)
        intro a h5
        rw [List.take_succ_eq_append_getElem hlt, List.mem_append, List.mem_singleton] at h5
        rcases h5 with h5 | rfl
        · exact ha a h5
        · omega
    · obtain rfl : k = l.length := by omega
      rw [List.take_length] at ha
      have e : fewB l = true := by simp [fewB]; exact ⟨by omega, ha⟩
      repeat first
        | refine J_seq ?_
        | refine seqQ_normal ?_
        | refine J_condT rfl ?_
        | refine J_condF rfl ?_
        | refine J_block ?_
        | refine blockQ_normal ?_
        | refine J_exit ?_
        | refine seqQ_exit ?_
        | refine blockQ_hit ?_
        | refine blockQ_miss rfl ?_
        | refine J_skip ?_
        | refine J_ret ?_
        | refine seqQ_ret ?_
        | refine blockQ_ret ?_
        | refine loopQ_exit ?_
        | refine loopQ_ret ?_
        | refine J_label ?_
      refine J_region ?_
      refine L_q (Q_assign rfl) rfl rfl rfl ?_
      refine JL_nil ?_
      repeat first
        | refine J_seq ?_
        | refine seqQ_normal ?_
        | refine J_condT rfl ?_
        | refine J_condF rfl ?_
        | refine J_block ?_
        | refine blockQ_normal ?_
        | refine J_exit ?_
        | refine seqQ_exit ?_
        | refine blockQ_hit ?_
        | refine blockQ_miss rfl ?_
        | refine J_skip ?_
        | refine J_ret ?_
        | refine seqQ_ret ?_
        | refine blockQ_ret ?_
        | refine loopQ_exit ?_
        | refine loopQ_ret ?_
        | refine J_label ?_
      exact retQ_ret _ [slc tDe false S l] (.cons (RV_tmp rfl) .nil) ⟨by rw [e]; rfl, rfl⟩ (Ent.refl _)
end Go.Proofs
