/- A log in files: what each function does to the whole. -/
import Derived.Test.YtogjhcelmbhooaaSeg8
set_option autoImplicit false
namespace Go.Proofs
open Go.SL
def newSize (z : Int) : Nat := (min (max z 64) 8192).toNat
theorem newSize_eq (z : Int) : min (max z 64) 8192 = ((newSize z : Nat) : Int) := by unfold newSize; omega
theorem good_new (z : Int) : Good ⟨newSize z, 0, []⟩ 0 := ⟨by simp only [newSize]; omega, by simp, by simp, trivial, Nat.le_refl _⟩
theorem appL_size (g : Lg) (t : List UInt8) : (appL g t).1.size = g.size := by unfold appL; repeat' split
                                                                               all_goals rfl
attribute [local irreducible] J JL QOp JOp seqQ blockQ loopQ retQ slc cel hex star pur stars Does RV Ent pAt scopeQ
attribute [local irreducible] fileAt diskAt
theorem segnew_ok (E : World) (z : Int) : Does Try.prog E 10 [.int .i64 z] [] fun v L => ∃ p, v = .pointer (some ⟨p, 0, none⟩) ∧ L = [segC p (newSize z) 0 SV.nil, slc tPf true SV.nil [], fsC []] := by
  refine Does.of Try.func10 rfl Try.ntmps10 rfl rfl fun F => ?_
  refine J.norm ?_
  refine J_seq ?_
  refine J_region ?_
  refine L_q (Q_assign rfl) rfl rfl rfl ?_
  refine JL_nil ?_
  refine seqQ_normal ?_
  refine J_seq ?_
  refine J_region ?_
  refine L_q (Q_move rfl) rfl rfl rfl ?_
  refine L_q (Q_max2 rfl rfl) rfl rfl rfl ?_
  refine L_q ((Q_min2 rfl rfl).as (congrArg (Value.int .i64) (newSize_eq z))) rfl rfl rfl ?_
  refine L_q (Q_build rfl) rfl rfl rfl ?_
  refine L_o rfl rfl rfl (O_box rfl fun b7 => ?_)
  refine L_q (Q_assign rfl) rfl rfl rfl ?_
  refine JL_nil ?_
  refine seqQ_normal ?_
  refine J_ret ?_
  refine retQ_ret _ [segC b7 (newSize z) 0 SV.nil, slc tPf true SV.nil [], fsC []] (.cons (RV_tmp rfl) .nil) ⟨b7, rfl, rfl⟩ ?_
  refine (Ent.mk fun _ _ h => (h.lay_nil tPf true : Sat _ _ (slc tPf true SV.nil [] :: _))).trans ?_
  exact (Ent.stars_nil (L := _)).trans (Ent.re [2, 1, 0, 3] rfl)
section
variable (E : World) (p : Nat) (g : Lg) (S : SV) (ps : List Fp) (c : Nat)
theorem append_g (t : List UInt8) (h : Good g c) (hc : c ≤ 1000000) (hf : ps.map (·.1) = g.fs) : Does Try.prog E 13 [.pointer (some ⟨p, 0, none⟩), str t] [segC p g.size g.sure S, slc tPf true S ps, fsC ps] fun v L => ∃ (S' : SV) (ps' : List Fp), v = .tuple #[.int .i64 ((appL g t).2.1 : Int), .int .i64 (appL g t).2.2] ∧
      ps'.map (·.1) = (appL g t).1.fs ∧ L = [segC p (appL g t).1.size (appL g t).1.sure S', slc tPf true S' ps', fsC ps'] := by
  have h1 := sappend_ok E p g.size g.sure S ps t h.size.1 h.size.2 (by have := h.few; rw [← hf] at this; simpa using this) (by rw [hf]; exact Nat.le_trans h.next hc) (fun r hr => by
    have := h.file r.1 (by rw [← hf]; exact List.mem_map_of_mem hr); exact ⟨this.1, this.2.1⟩)
  rw [hf] at h1
  rw [appL_size]
  exact h1
theorem sync_g (h : Good g c) (hc : c ≤ 1000000) (hf : ps.map (·.1) = g.fs) : Does Try.prog E 14 [.pointer (some ⟨p, 0, none⟩)] [segC p g.size g.sure S, slc tPf true S ps, fsC ps] fun v L => ∃ (ps' : List Fp), v = .tuple #[] ∧
      ps'.map (·.1) = (syncL g).fs ∧ L = [segC p (syncL g).size (syncL g).sure S, slc tPf true S ps', fsC ps'] := by
  have h1 := sync_ok E p g.size g.sure S ps (by have := h.few; rw [← hf] at this; simpa using this) (by rw [hf]; exact Nat.le_trans h.next (by omega)) (fun r hr => by
    have := h.file r.1 (by rw [← hf]; exact List.mem_map_of_mem hr); exact ⟨this.1, this.2.1⟩)
  refine h1.mono fun v L hv => ⟨onP ps syncF, hv.1, by rw [onP_fst, hf]; rfl, ?_⟩
  rw [hv.2, hf]
  have e : (ps = []) = (g.fs = []) := by rw [← hf]; simp
  simp only [syncL, e]
theorem crash_g (keep : Nat) (hk : keep < 2 ^ 64) (h : Good g c) (hc : c ≤ 1000000) (hf : ps.map (·.1) = g.fs) : Does Try.prog E 18 [.pointer (some ⟨p, 0, none⟩), .int .u64 (keep : Int)] [segC p g.size g.sure S, slc tPf true S ps, fsC ps] fun v L => ∃ (ps' : List Fp), v = .tuple #[] ∧
      ps'.map (·.1) = (crashL g keep).fs ∧ L = [segC p (crashL g keep).size (crashL g keep).sure S, slc tPf true S ps', fsC ps'] := by
  have hcr := (h.crash (keep := keep)).next
  have h1 := crash_ok E p g.size g.sure keep S ps hk (by have := h.few; rw [← hf] at this; simpa using this) (by rw [hf]; exact Nat.le_trans hcr (by omega)) (fun r hr => by
    have := h.file r.1 (by rw [← hf]; exact List.mem_map_of_mem hr); exact ⟨this.1, this.2.1⟩)
  refine h1.mono fun v L hv => ⟨onP ps fun f => crashF f keep, hv.1, by rw [onP_fst, hf]; rfl, ?_⟩
  rw [hv.2, hf]
  have e : (ps = []) = (g.fs = []) := by rw [← hf]; simp
  simp only [crashL, e]
theorem drop_g (seq : Int) (h : Good g c) (hc : c ≤ 1000000) (hf : ps.map (·.1) = g.fs) : Does Try.prog E 17 [.pointer (some ⟨p, 0, none⟩), .int .i64 seq] [segC p g.size g.sure S, slc tPf true S ps, fsC ps] fun v L => ∃ (S' : SV) (ps' : List Fp), v = .int .i64 ((dropL g seq).2 : Int) ∧
      ps'.map (·.1) = (dropL g seq).1.fs ∧ L = [segC p (dropL g seq).1.size (dropL g seq).1.sure S', slc tPf true S' ps', fsC ps'] := by
  have h1 := sdrop_ok E p g.size g.sure S ps seq (by have := h.few; rw [← hf] at this; simpa using this) (fun r hr => by
    have := h.file r.1 (by rw [← hf]; exact List.mem_map_of_mem hr); omega)
  rw [hf] at h1
  exact h1.mono fun v L ⟨S', hv, hL⟩ => ⟨S', _, hv, by rw [List.map_drop, hf]; rfl, hL⟩
theorem next_g (h : Good g c) (hc : c ≤ 1000000) (hf : ps.map (·.1) = g.fs) : Does Try.prog E 22 [.pointer (some ⟨p, 0, none⟩)] [segC p g.size g.sure S, slc tPf true S ps, fsC ps] fun v L => v = .int .i64 (nextOf g.fs : Int) ∧ L = [segC p g.size g.sure S, slc tPf true S ps, fsC ps] := by
  have h1 := snext_ok E p g.size g.sure S ps (by have := h.few; rw [← hf] at this; simpa using this) (by rw [hf]; exact Nat.le_trans h.next (by omega))
  rw [hf] at h1
  exact h1
theorem first_g (h : Good g c) (hf : ps.map (·.1) = g.fs) : Does Try.prog E 20 [.pointer (some ⟨p, 0, none⟩)] [segC p g.size g.sure S, slc tPf true S ps, fsC ps] fun v L => v = .int .i64 (firstOf g.fs : Int) ∧ L = [segC p g.size g.sure S, slc tPf true S ps, fsC ps] := by
  have h1 := sfirst_ok E p g.size g.sure S ps (by have := h.few; rw [← hf] at this; simpa using this)
  rw [hf] at h1
  exact h1
theorem files_g (hf : ps.map (·.1) = g.fs) : Does Try.prog E 25 [.pointer (some ⟨p, 0, none⟩)] [segC p g.size g.sure S, slc tPf true S ps] fun v L => v = .int .i64 (g.fs.length : Int) ∧ L = [segC p g.size g.sure S, slc tPf true S ps] := by
  have h1 := sfiles_ok E p g.size g.sure S ps
  rw [show ps.length = g.fs.length by rw [← hf]; simp] at h1
  exact h1
theorem get_g (i : Int) (h : Good g c) (hc : c ≤ 1000000) (hf : ps.map (·.1) = g.fs) : Does Try.prog E 26 [.pointer (some ⟨p, 0, none⟩), .int .i64 i] [segC p g.size g.sure S, slc tPf true S ps, fsC ps] fun v L => v = getV g.fs i ∧ L = [segC p g.size g.sure S, slc tPf true S ps, fsC ps] := by
  have h1 := sget_ok E p g.size g.sure S ps i (by have := h.few; rw [← hf] at this; simpa using this) (fun r hr => by
    have := h.file r.1 (by rw [← hf]; exact List.mem_map_of_mem hr); exact ⟨this.1, this.2.2.1, Nat.le_trans this.2.2.2 (by omega)⟩)
  rw [hf] at h1
  exact h1
end
end Go.Proofs
