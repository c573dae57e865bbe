/- Texts one behind the other, walked. -/
import Derived.Test.YtmmkepghmmbppaaTysD
import Derived.Test.YtmmkepghmmbppaaSl14
import Derived.Test.YtmmkepghmmbppaaWireP
set_option autoImplicit false
namespace Go.Proofs
open Go.SL
attribute [local irreducible] J JL QOp JOp seqQ blockQ loopQ retQ slc cel hex star pur stars Does RV Ent pAt
def tS : Ty (List UInt8) := ⟨9, 1, fun s => [str s], fun _ => rfl, by decide, fun a v hv => by simp at hv; subst hv; rfl⟩
instance : TyU Try.prog tS.e .string := inferInstanceAs (TyU Try.prog 9 .string)
instance : TyI Try.prog tS.e 1 (.string ⟨#[]⟩) 16 := inferInstanceAs (TyI Try.prog 9 1 (.string ⟨#[]⟩) 16)
instance : TyU Try.prog 29 (.slice tS.e) := inferInstanceAs (TyU Try.prog 29 (.slice 9))
theorem wtext_ok (E : World) (s : List UInt8) (hs : s.length ≤ 100000000) : Does Try.prog E 46 [str s] [] fun v L => v = str (four s.length ++ s) ∧ L = [] := by
  refine Does.of Try.func46 rfl Try.ntmps46 rfl rfl fun F => ?_
  refine J.norm ?_
  refine J_seq ?_
  refine J_region ?_
  refine L_q (Q_assign rfl) rfl rfl rfl ?_
  refine JL_nil ?_
  refine seqQ_normal ?_
  refine J_seq ?_
  refine J_region ?_
  refine L_q (Q_move rfl) rfl rfl rfl ?_
  refine L_q (Q_slen rfl) rfl rfl rfl ?_
  refine L_q (Q_assign rfl) rfl rfl rfl ?_
  refine JL_nil ?_
  refine seqQ_normal ?_
  refine J_seq ?_
  refine J_region ?_
  refine L_q (Q_move rfl) rfl rfl rfl ?_
  refine L_q (Q_shrZ s.length 24 rfl rfl rfl rfl (by decide)) rfl rfl rfl ?_
  refine L_q (Q_cvtN (s.length / 2 ^ 24) rfl rfl) rfl rfl rfl ?_
  refine L_q (Q_move rfl) rfl rfl rfl ?_
  refine L_q (Q_shrZ s.length 16 rfl rfl rfl rfl (by decide)) rfl rfl rfl ?_
  refine L_q (Q_cvtN (s.length / 2 ^ 16) rfl rfl) rfl rfl rfl ?_
  refine L_q (Q_move rfl) rfl rfl rfl ?_
  refine L_q (Q_shrZ s.length 8 rfl rfl rfl rfl (by decide)) rfl rfl rfl ?_
  refine L_q (Q_cvtN (s.length / 2 ^ 8) rfl rfl) rfl rfl rfl ?_
  refine L_q (Q_move rfl) rfl rfl rfl ?_
  refine L_q (Q_cvtN s.length rfl rfl) rfl rfl rfl ?_
  refine L_o rfl rfl rfl (O_litP (τ := tB) (m := 4) (sz := 1) (four s.length) rfl rfl rfl rfl rfl rfl (by decide) (fun S => ?_))
  refine JL.norm ?_
  refine L_q (Q_b2s tB_enc (fun w h => h.rd 0 rfl) rfl) rfl rfl rfl ?_
  refine L_q (Q_move rfl) rfl rfl rfl ?_
  refine L_q (Q_sadd rfl rfl (by simp [four]; omega)) rfl rfl rfl ?_
  refine L_q (Q_assign rfl) rfl rfl rfl ?_
  refine JL_nil ?_
  refine seqQ_normal ?_
  refine J_ret ?_
  exact retQ_ret _ [] (.cons (RV_tmp rfl) .nil) ⟨rfl, rfl⟩ (Ent.re [1] rfl)
theorem wtexts_ok (E : World) (full : Bool) (S : SV) (l : List (List UInt8)) (hl : l.length ≤ 100000000) (hs : (texts l).length ≤ 100000000) : Does Try.prog E 36 [S.v] [slc tS full S l] fun v L => v = str (texts l) ∧ L = [slc tS full S l] := by
  refine Does.of Try.func36 rfl Try.ntmps36 rfl rfl fun F => ?_
  refine J.norm ?_
  refine J_seq ?_
  refine J_region ?_
  refine L_q (Q_assign rfl) rfl rfl rfl ?_
  refine JL_nil ?_
  refine seqQ_normal ?_
  refine J_seq ?_
  refine J_region ?_
  refine L_q (Q_assign rfl) rfl rfl rfl ?_
  refine JL_nil ?_
  refine seqQ_normal ?_
  refine J_seq ?_
  refine J_seq ?_
  refine J_region ?_
  refine L_q (Q_move rfl) rfl rfl rfl ?_
  refine L_q (Q_lenAt 0 rfl rfl) rfl rfl rfl ?_
  refine L_q (Q_move rfl) rfl rfl rfl ?_
  refine JL_nil ?_
  refine seqQ_normal ?_
  refine J_block ?_
  refine J.ent (Ent.mk fun _ _ h => (h.lay_nil tB true : Sat _ _ (slc tB true SV.nil [] :: _))) ?_
  refine J_loop (fun i : Nat × SV => i.1 ≤ l.length) (fun i => [(3, i.2.v), (6, S.v), (7, .int .i64 (l.length : Int)), (8, .int .i64 (i.1 : Int))])
    (fun i => [slc tB true i.2 (texts (l.take i.1)), slc tS full S l, F]) (fun i => l.length - i.1) (0, SV.nil) (by simp) ⟨rfl, rfl, rfl, rfl, trivial⟩ (Ent.refl _) ?_
  rintro ⟨k, B⟩ hk
  simp only at hk
  refine J_seq ?_
  refine J_region ?_
  refine L_q (Q_lss rfl rfl) rfl rfl rfl ?_
  refine JL_nil ?_
  refine seqQ_normal ?_
  refine J_seq ?_
  refine J_condD rfl (fun h => ?_) (fun h => ?_)
  · have hlt : k < l.length := by omega
    have h1 := texts_succ l k hlt
    have h2 := texts_le l (k + 1)
    have h3 : (texts (l.take k)).length + (4 + l[k].length) ≤ (texts l).length := by
      rw [h1] at h2; simp [four] at h2; omega
    refine J_skip ?_
    refine seqQ_normal ?_
    refine J_seq ?_
    refine J_block ?_
    refine J_seq ?_
    refine J_region ?_
    refine L_q (Q_ixAt 1 k rfl rfl rfl rfl hlt rfl) rfl rfl rfl ?_
    refine L_q (Q_ldEAt 1 k 0 (v := str l[k]) rfl rfl rfl rfl hlt (by decide) rfl) rfl rfl rfl ?_
    refine L_q (Q_assign rfl) rfl rfl rfl ?_
    refine JL_nil ?_
    refine seqQ_normal ?_
    refine J_region ?_
    refine L_q (Q_move rfl) rfl rfl rfl ?_
    refine L_q (Q_move rfl) rfl rfl rfl ?_
    refine L_o rfl rfl rfl (O_call [] [0,1,2] (wtext_ok E l[k] (by omega)) rfl rfl ?_)
    rintro _ _ ⟨rfl, rfl⟩
    refine JL.norm ?_
    refine L_o rfl rfl rfl (O_appS tB_enc 0 rfl rfl rfl rfl rfl (by simp [four]; omega) (by decide) (fun B' => ?_))
    refine JL.norm ?_
    refine L_q (Q_assign rfl) rfl rfl rfl ?_
    refine JL_nil ?_
    refine blockQ_normal ?_
    refine seqQ_normal ?_
    refine J_region ?_
    refine L_q (Q_add rfl rfl (by first | exact IntWalk.i64_in _ (by omega) | exact IntWalk.u8_in _ (by omega) | exact IntWalk.u32_in _ (by omega) | exact IntWalk.u64_in _ (by omega) | rfl)) rfl rfl rfl ?_
    refine L_q (Q_move rfl) rfl rfl rfl ?_
    refine JL_nil ?_
    exact loopQ_normal (k + 1, B') hlt (by simp; omega) ⟨rfl, rfl, rfl, rfl, trivial⟩ (by simp only; rw [h1]; exact Ent.refl _)
  · obtain rfl : k = l.length := by omega
    refine J_exit ?_
    refine seqQ_exit ?_
    refine loopQ_exit ?_
    refine blockQ_hit ?_
    refine seqQ_normal ?_
    refine J_seq ?_
    refine J_region ?_
    refine L_q (Q_move rfl) rfl rfl rfl ?_
    refine L_q (Q_b2s tB_enc (fun w h => h.rd 0 rfl) rfl) rfl rfl rfl ?_
    refine L_q (Q_assign rfl) rfl rfl rfl ?_
    refine JL_nil ?_
    refine seqQ_normal ?_
    refine J_ret ?_
    exact retQ_ret _ [slc tS full S l] (.cons (RV_tmp rfl) .nil) ⟨by rw [List.take_length]; rfl, rfl⟩ (Ent.re [1, 2] rfl)
end Go.Proofs
