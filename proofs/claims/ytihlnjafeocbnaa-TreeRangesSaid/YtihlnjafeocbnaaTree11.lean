/- A tree like another. -/
import Derived.Test.YtihlnjafeocbnaaTree10
set_option autoImplicit false
namespace Go.Proofs
open Go.SL
theorem take_snoc {α : Type} {A B : List α} {e : α} {j : Nat} (h : A.length = j) : (A ++ e :: B).take (j + 1) = (A ++ e :: B).take j ++ [e] := by
  subst h
  rw [List.take_left]
  have := List.take_left (l₁ := A ++ [e]) (l₂ := B)
  simp only [List.length_append, List.length_singleton, List.append_assoc, List.singleton_append] at this
  exact this
theorem Ent.last2 {d : Nat} {qs : List (Nat × T d)} {e : Nat × T d} {L : List HProp} : Ent (nodeA d e.1 e.2 :: stars (qs.map (ndE d)) :: L) (stars ((qs ++ [e]).map (ndE d)) :: L) := Ent.last_in (ndE d) qs e
attribute [local irreducible] J JL QOp JOp seqQ blockQ loopQ retQ slc cel hex star pur stars Does RV Ent pAt scopeQ
attribute [local irreducible] nodeA nodeX treeA
theorem nclone_ok (E : World) : ∀ (d p m : Nat) (t : T d), wf m d t → Does Try.prog E 34 [.pointer (some ⟨p, 0, none⟩)] [nodeA d p t] fun v L => ∃ q : Nat, v = .pointer (some ⟨q, 0, none⟩) ∧ L = [nodeA d p t, nodeA d q t] := by
  intro d
  induction d with
  | zero =>
    intro p m t hw
    have h7 := (wf_ks hw).2
    refine Does.of Try.func34 rfl Try.ntmps34 rfl rfl fun F => ?_
    refine J.norm ?_
    refine J.leaf fun S R => ?_
    refine J_seq ?_
    refine J_region ?_
    refine L_q (Q_assign rfl) rfl rfl rfl ?_
    refine JL_nil ?_
    refine seqQ_normal ?_
    refine J_seq ?_
    refine J_region ?_
    refine L_q (Q_move rfl) rfl rfl rfl ?_
    refine L_q (Q_nilCheck rfl) rfl rfl rfl ?_
    refine L_q (Q_fa0 rfl) rfl rfl rfl ?_
    refine L_q (Q_ld 0 rfl rfl rfl rfl) rfl rfl rfl ?_
    refine L_o rfl rfl rfl (O_call [1] [0,2,3] (kvclone_ok E S (tks 0 t) (by omega)) rfl rfl ?_)
    rintro _ _ ⟨V, rfl, rfl⟩
    refine JL.norm ?_
    refine L_q (Q_build rfl) rfl rfl rfl ?_
    refine L_o rfl rfl rfl (O_box rfl fun b12 => ?_)
    refine L_q (Q_assign rfl) rfl rfl rfl ?_
    refine JL_nil ?_
    refine seqQ_normal ?_
    refine J_seq ?_
    refine J_seq ?_
    refine J_region ?_
    refine L_q (Q_move rfl) rfl rfl rfl ?_
    refine L_q (Q_nilCheck rfl) rfl rfl rfl ?_
    refine L_q (Q_fa0 rfl) rfl rfl rfl ?_
    refine L_q (Q_ld 3 rfl rfl rfl rfl) rfl rfl rfl ?_
    refine L_q (Q_lenAt 4 rfl rfl) rfl rfl rfl ?_
    refine L_q (Q_move rfl) rfl rfl rfl ?_
    refine JL_nil ?_
    refine seqQ_normal ?_
    refine J_block ?_
    refine J_loop (fun _ : Unit => True) (fun _ => [(3, .pointer (some ⟨b12, 0, none⟩)), (17, .int .i64 0), (18, .int .i64 0)]) (fun _ => [ndC b12 V SV.nil, slc tKv true S (tks 0 t), slc tKv true V (tks 0 t), ndC p S R, slc tNd true R [], F]) (fun _ => 0) () trivial ⟨rfl, rfl, rfl, trivial⟩ (Ent.refl _) ?_
    intro _ _
    refine J_seq ?_
    refine J_region ?_
    refine L_q ((Q_lss rfl rfl).as (v' := .bool false) rfl) rfl rfl rfl ?_
    refine JL_nil ?_
    refine seqQ_normal ?_
    refine J_seq ?_
    refine J_condF rfl ?_
    refine J_exit ?_
    refine seqQ_exit ?_
    refine loopQ_exit ?_
    refine blockQ_hit ?_
    refine seqQ_normal ?_
    refine J_seq ?_
    refine J_region ?_
    refine L_q (Q_move rfl) rfl rfl rfl ?_
    refine L_q (Q_assign rfl) rfl rfl rfl ?_
    refine JL_nil ?_
    refine seqQ_normal ?_
    refine J_ret ?_
    refine retQ_ret _ [nodeA 0 p t, nodeA 0 b12 t] (.cons (RV_tmp rfl) .nil) ⟨b12, rfl, rfl⟩ ?_
    refine (Ent.mk fun _ _ h => (h.lay_nil tNd true : Sat _ _ (slc tNd true SV.nil [] :: _))).trans ?_
    refine (Ent.re [1, 3, 0, 4, 2, 5, 6] rfl).trans (Ent.leafA.trans ?_)
    exact (Ent.re [1, 2, 3, 0, 4] rfl).trans (Ent.leafA.trans (Ent.refl _))
  | succ d ih =>
    intro p m t hw
    obtain ⟨K, C⟩ := t
    obtain ⟨_, h7, hC, hwc⟩ := hw
    dsimp only at h7 hC hwc
    refine Does.of Try.func34 rfl Try.ntmps34 rfl rfl fun F => ?_
    refine J.norm ?_
    refine J.inner fun S R es hes => ?_
    dsimp only at hes ⊢
    subst hes
    rw [List.length_map] at hC
    have hpl : (pL es).length = es.length := pL_len es
    refine J_seq ?_
    refine J_region ?_
    refine L_q (Q_assign rfl) rfl rfl rfl ?_
    refine JL_nil ?_
    refine seqQ_normal ?_
    refine J_seq ?_
    refine J_region ?_
    refine L_q (Q_move rfl) rfl rfl rfl ?_
    refine L_q (Q_nilCheck rfl) rfl rfl rfl ?_
    refine L_q (Q_fa0 rfl) rfl rfl rfl ?_
    refine L_q (Q_ld 0 rfl rfl rfl rfl) rfl rfl rfl ?_
    refine L_o rfl rfl rfl (O_call [1] [0,2,3,4] (kvclone_ok E S K (by omega)) rfl rfl ?_)
    rintro _ _ ⟨V, rfl, rfl⟩
    refine JL.norm ?_
    refine L_q (Q_build rfl) rfl rfl rfl ?_
    refine L_o rfl rfl rfl (O_box rfl fun b12 => ?_)
    refine L_q (Q_assign rfl) rfl rfl rfl ?_
    refine JL_nil ?_
    refine seqQ_normal ?_
    refine J_seq ?_
    refine J_seq ?_
    refine J_region ?_
    refine L_q (Q_move rfl) rfl rfl rfl ?_
    refine L_q (Q_nilCheck rfl) rfl rfl rfl ?_
    refine L_q (Q_fa0 rfl) rfl rfl rfl ?_
    refine L_q (Q_ld 3 rfl rfl rfl rfl) rfl rfl rfl ?_
    refine L_q (Q_lenAt 4 rfl rfl) rfl rfl rfl ?_
    refine L_q (Q_move rfl) rfl rfl rfl ?_
    refine JL_nil ?_
    refine seqQ_normal ?_
    refine J_block ?_
    rw [hpl]
    refine J.ent (Ent.mk fun _ _ h => (h.lay_nil tNd true : Sat _ _ (slc tNd true SV.nil [] :: _))) ?_
    refine J.ent (Ent.stars_nil) ?_
    refine J_loop (fun i : SV × List (Nat × T d) => i.2.length ≤ es.length ∧ i.2.map (·.2) = (es.take i.2.length).map (·.2)) (fun i => [(3, .pointer (some ⟨b12, 0, none⟩)), (16, R.v), (17, .int .i64 (es.length : Int)), (18, .int .i64 (i.2.length : Int))])
      (fun i => [ndC p S R, slc tKv true S K, slc tNd true R (pL es), stars (es.map (ndE d)), ndC b12 V i.1, slc tKv true V K, slc tNd true i.1 (pL i.2), stars (i.2.map (ndE d)), F]) (fun i => es.length - i.2.length) (SV.nil, []) ⟨Nat.zero_le _, rfl⟩ ⟨rfl, rfl, rfl, rfl, trivial⟩ (Ent.re [5, 3, 6, 7, 2, 4, 1, 0, 8] rfl) ?_
    rintro ⟨Q, qs⟩ ⟨hql, hqs⟩
    dsimp only at hql hqs ⊢
    refine J_seq ?_
    refine J_region ?_
    refine L_q (Q_lss rfl rfl) rfl rfl rfl ?_
    refine JL_nil ?_
    refine seqQ_normal ?_
    refine J_seq ?_
    refine J_condD rfl (fun h => ?_) (fun h => ?_)
    · have hlt : qs.length < es.length := by omega
      obtain ⟨A, e, B, rfl, hA⟩ := split_at hlt
      have hPl : qs.length < (pL (A ++ e :: B)).length := by omega
      have hPg : (pL (A ++ e :: B))[qs.length] = some e.1 := by simp only [← hA]; exact mid_get _ A B e _
      have hcl := ih e.1 3 e.2 (hwc e.2 (by simp))
      refine J_skip ?_
      refine seqQ_normal ?_
      refine J_seq ?_
      refine J_block ?_
      refine J_seq ?_
      refine J_region ?_
      refine L_q (Q_ixAt 2 qs.length rfl rfl rfl rfl hPl rfl) rfl rfl rfl ?_
      refine L_q (Q_ldEAt 2 qs.length 0 (v := .pointer (some ⟨e.1, 0, none⟩)) rfl rfl rfl rfl hPl (by decide) (by rw [hPg]; rfl)) rfl rfl rfl ?_
      refine L_q (Q_assign rfl) rfl rfl rfl ?_
      refine JL_nil ?_
      refine seqQ_normal ?_
      refine J.ent ((Ent.re [3, 0, 1, 2, 4, 5, 6, 7, 8] rfl).trans (Ent.mid_out (ndE d) A e B)) ?_
      refine J_drawH [5] [0, 1, 2, 3, 4, 5, 9, 10] (.quiet 0 (.quiet 1 (.quiet 2 (.quiet 3 (.quiet 4 (.quiet 5 (.loud 6 (.loud 7 (.loud 8 (.quiet 9 (.quiet 10 (.loud 11 .done)))))))))))) Try.mixed (by kernel_rfl) (by kernel_rfl) (by repeat (first | exact retQ_noP | refine seqQ_noP ?_ | refine blockQ_noP ?_ | refine loopQ_noP ?_ | refine scopeQ_noP ?_ | (intro _ _ _ h; cases h.1))) ?_
      refine S_q (Ent.re [5] rfl) rfl (Q_move rfl) rfl rfl rfl ?_
      refine S_q (Ent.re [5] rfl) rfl (Q_move rfl) rfl rfl rfl ?_
      refine S_q (Ent.re [5] rfl) rfl (Q_nilCheck rfl) rfl rfl rfl ?_
      refine S_q (Ent.re [5] rfl) rfl (Q_fa0 rfl) rfl rfl rfl ?_
      refine S_q (Ent.re [5] rfl) rfl (Q_ld 0 rfl rfl rfl rfl) rfl rfl rfl ?_
      refine S_q (Ent.re [5] rfl) rfl (Q_move rfl) rfl rfl rfl ?_
      refine S_o rfl rfl rfl rfl (O_call [0] [1,2,3,4,5,6,7,8,9] hcl rfl rfl ?_)
      (rintro _ _ ⟨q, rfl, rfl⟩; refine ⟨_, fun _ => ⟨Ent.reN [6] rfl, Ent.refl _⟩, ?_⟩)
      refine JS.norm ?_
      refine S_o rfl rfl rfl rfl (O_litP (τ := tNd) (m := 1) (sz := 1) [some q] rfl rfl rfl rfl rfl rfl (by decide) (fun U => ⟨_, fun _ => ⟨Ent.reN [7] rfl, Ent.refl _⟩, ?_⟩))
      refine JS.norm ?_
      refine S_o rfl rfl rfl rfl (O_app (τ := tNd) 9 rfl (fun w h => h.rd 0 rfl) rfl rfl rfl rfl (by rw [pL_len]; simp only [List.length_singleton]; omega) (by decide) (fun W => ⟨_, fun _ => ⟨Ent.reN [7] rfl, Ent.refl _⟩, ?_⟩))
      refine JS.norm ?_
      refine S_q (Ent.re [7] rfl) rfl (Q_nilCheck rfl) rfl rfl rfl ?_
      refine S_q (Ent.re [7] rfl) rfl (Q_fa0 rfl) rfl rfl rfl ?_
      refine S_s rfl rfl rfl (O_st1 7 rfl rfl rfl rfl rfl ⟨[], free_no (by kernel_rfl), ?_⟩)
      refine JS.norm ?_
      refine S_nil ?_
      refine blockQ_normal ?_
      refine seqQ_normal ?_
      refine J_region ?_
      refine L_q (Q_add rfl rfl (by first | exact IntWalk.i64_in _ (by omega) | exact IntWalk.u8_in _ (by omega) | exact IntWalk.u32_in _ (by omega) | exact IntWalk.u64_in _ (by omega) | rfl)) rfl rfl rfl ?_
      refine L_q (Q_move rfl) rfl rfl rfl ?_
      refine JL_nil ?_
      have hl1 : (qs ++ [(q, e.2)]).length = qs.length + 1 := by simp
      refine loopQ_normal (W, qs ++ [(q, e.2)]) ⟨by show (qs ++ [(q, e.2)]).length ≤ _; rw [hl1]; omega, ?_⟩ (by show (A ++ e :: B).length - (qs ++ [(q, e.2)]).length < (A ++ e :: B).length - qs.length; rw [hl1]; omega) ⟨rfl, rfl, rfl, by simp only [List.length_append, List.length_singleton]; rfl, trivial⟩ ?_
      · simp only [List.length_append, List.length_singleton]
        rw [take_snoc hA, List.map_append, List.map_append, hqs]; rfl
      · have e1 : pL qs ++ [some q] = pL (qs ++ [(q, e.2)]) := by simp [pL]
        rw [e1]
        refine (Ent.re [1, 3, 2, 4, 5, 6, 7, 8, 9, 10, 11] rfl).trans ((Ent.mid_in (ndE d) A e B).trans ?_)
        refine (Ent.re [1, 8, 0, 2, 3, 4, 5, 6, 7, 9] rfl).trans ((Ent.last2 (e := (q, e.2))).trans ?_)
        exact Ent.re [2, 3, 4, 1, 5, 6, 7, 0, 8] rfl
    · have hle : qs.length = es.length := by omega
      rw [hle, List.take_length] at hqs
      refine J_exit ?_
      refine seqQ_exit ?_
      refine loopQ_exit ?_
      refine blockQ_hit ?_
      refine seqQ_normal ?_
      refine J_seq ?_
      refine J_region ?_
      refine L_q (Q_move rfl) rfl rfl rfl ?_
      refine L_q (Q_assign rfl) rfl rfl rfl ?_
      refine JL_nil ?_
      refine seqQ_normal ?_
      refine J_ret ?_
      refine retQ_ret _ [nodeA (d + 1) p (K, es.map (·.2)), nodeA (d + 1) b12 (K, es.map (·.2))] (.cons (RV_tmp rfl) .nil) ⟨b12, rfl, rfl⟩ ?_
      refine (Ent.innerA (es := es) rfl).trans ?_
      exact (Ent.re [1, 2, 3, 4, 0, 5] rfl).trans ((Ent.innerA (es := qs) hqs).trans (Ent.re [1, 0, 2] rfl))
theorem tclone_ok (E : World) (p : Nat) (l : List Kv) : Does Try.prog E 22 [.pointer (some ⟨p, 0, none⟩)] [treeA p l] fun v L => ∃ q : Nat, v = .pointer (some ⟨q, 0, none⟩) ∧ L = [treeA p l, treeA q l] := by
  refine Does.of Try.func22 rfl Try.ntmps22 rfl rfl fun F => ?_
  refine J.norm ?_
  refine J_seq ?_
  refine J_region ?_
  refine L_q (Q_assign rfl) rfl rfl rfl ?_
  refine JL_nil ?_
  refine seqQ_normal ?_
  refine J_seq ?_
  refine J_seq ?_
  refine J_region ?_
  refine L_q (Q_move rfl) rfl rfl rfl ?_
  refine L_q ((Q_peql rfl rfl).as (v' := .bool false) rfl) rfl rfl rfl ?_
  refine JL_nil ?_
  refine seqQ_normal ?_
  refine J_condF rfl ?_
  refine J_skip ?_
  refine seqQ_normal ?_
  refine J_seq ?_
  refine J.tree fun r d t hu hw hf => ?_
  have hc := nclone_ok E d r (min d 1) t hw
  refine J_drawH [1] [0, 1, 2, 3, 5, 6, 7, 8, 9, 11] (.quiet 0 (.quiet 1 (.quiet 2 (.quiet 3 (.quiet 5 (.quiet 6 (.quiet 7 (.quiet 8 (.loud 4 (.quiet 9 (.loud 10 (.quiet 11 .done)))))))))))) Try.mixed (by kernel_rfl) (by kernel_rfl) (by repeat (first | exact retQ_noP | refine seqQ_noP ?_ | refine blockQ_noP ?_ | refine loopQ_noP ?_ | refine scopeQ_noP ?_ | (intro _ _ _ h; cases h.1))) ?_
  refine S_q (Ent.re [1] rfl) rfl (Q_move rfl) rfl rfl rfl ?_
  refine S_q (Ent.re [1] rfl) rfl (Q_nilCheck rfl) rfl rfl rfl ?_
  refine S_q (Ent.re [1] rfl) rfl (Q_fa0 rfl) rfl rfl rfl ?_
  refine S_q (Ent.re [1] rfl) rfl (Q_ld 0 rfl rfl rfl rfl) rfl rfl rfl ?_
  refine S_q (Ent.re [1] rfl) rfl (Q_move rfl) rfl rfl rfl ?_
  refine S_q (Ent.re [1] rfl) rfl (Q_nilCheck rfl) rfl rfl rfl ?_
  refine S_q (Ent.re [1] rfl) rfl (Q_fa0 rfl) rfl rfl rfl ?_
  refine S_q (Ent.re [1] rfl) rfl (Q_ld 0 rfl rfl rfl rfl) rfl rfl rfl ?_
  refine S_o rfl rfl rfl rfl (O_call [0] [1,2] hc rfl rfl ?_)
  (rintro _ _ ⟨q, rfl, rfl⟩; refine ⟨_, fun _ => ⟨Ent.reN [2] rfl, Ent.refl _⟩, ?_⟩)
  refine JS.norm ?_
  refine S_q (Ent.re [2] rfl) rfl (Q_build rfl) rfl rfl rfl ?_
  refine S_o rfl rfl rfl rfl (O_box rfl fun b15 => ⟨_, fun _ => ⟨Ent.reN [3] rfl, Ent.refl _⟩, ?_⟩)
  refine JS.norm ?_
  refine S_q (Ent.re [3] rfl) rfl (Q_assign rfl) rfl rfl rfl ?_
  refine S_nil ?_
  refine seqQ_normal ?_
  refine J_ret ?_
  refine retQ_ret _ [treeA p l, treeA b15 l] (.cons (RV_tmp rfl) .nil) ⟨b15, rfl, rfl⟩ ?_
  refine (Ent.re [1, 3, 2, 0, 4] rfl).trans ((Ent.mkX hw hf).trans ?_)
  refine (Ent.re [1, 0, 2, 3, 4] rfl).trans ((Ent.tree hu).trans ?_)
  refine (Ent.re [1, 0, 2, 3] rfl).trans ((Ent.mkX hw hf).trans ?_)
  refine (Ent.re [2, 0, 1, 3] rfl).trans ((Ent.tree hu).trans ?_)
  exact Ent.re [1, 0, 2] rfl
end Go.Proofs
