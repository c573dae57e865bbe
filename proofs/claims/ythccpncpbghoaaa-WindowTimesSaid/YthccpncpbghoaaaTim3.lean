/- The document's timer, walked. -/
import Derived.Test.YthccpncpbghoaaaTim2
set_option autoImplicit false
namespace Go.Proofs
open Go.SL
def tO : Ty Op3 := ⟨65, 3, fun x => [.int .i64 x.1, .int .i64 x.2.1, .int .i64 x.2.2], fun _ => rfl, by decide, fun a v hv => by simp at hv; rcases hv with rfl | rfl | rfl <;> rfl⟩
instance : TyI Try.prog tO.e 3 (.agg #[.int .i64 0, .int .i64 0, .int .i64 0]) 24 := inferInstanceAs (TyI Try.prog 65 3 (.agg #[.int .i64 0, .int .i64 0, .int .i64 0]) 24)
instance : TyU Try.prog 39 (.slice tO.e) := inferInstanceAs (TyU Try.prog 39 (.slice 65))
abbrev refT (most : Nat) (X : SV) : Value := .agg #[.int .i64 (most : Int), X.v]
theorem insT_placed (a : List Op3) (x : Op3) (s : Int) (w : Wt) (h : ∃ y ∈ a, s < y.1) : insT (a ++ [x]) s w = insT a s w ++ [x] := by
  induction a with
  | nil => obtain ⟨y, hy, _⟩ := h; simp at hy
  | cons z a ih =>
    simp only [List.cons_append, insT]
    split
    · rfl
    · rename_i hz
      obtain ⟨y, hy, hy2⟩ := h
      rcases List.mem_cons.1 hy with rfl | hy
      · exact absurd hy2 hz
      · rw [ih ⟨y, hy, hy2⟩]; rfl
theorem insT_behind (a : List Op3) (b : List Op3) (s : Int) (w : Wt) (h : ∀ y ∈ a, ¬ s < y.1) : insT (a ++ b) s w = a ++ insT b s w := by
  induction a with
  | nil => rfl
  | cons z a ih =>
    simp only [List.cons_append, insT]
    rw [if_neg (h z (by simp)), ih fun y hy => h y (by simp [hy])]
attribute [local irreducible] J JL QOp JOp seqQ blockQ loopQ retQ slc cel hex star pur stars Does RV Ent pAt scopeQ
theorem rtnew_ok (E : World) (z : Int) : Does Try.prog E 18 [.int .i64 z] [] fun v L => v = refT (winSize z) SV.nil ∧ L = [] := by
  refine Does.of Try.func18 rfl Try.ntmps18 rfl rfl fun F => ?_
  refine J.norm ?_
  repeat first
    | refine J_seq ?_
    | refine seqQ_normal ?_
    | refine J_condT rfl ?_
    | refine J_condF rfl ?_
    | refine J_block ?_
    | refine blockQ_normal ?_
    | refine J_exit ?_
    | refine seqQ_exit ?_
    | refine blockQ_hit ?_
    | refine blockQ_miss rfl ?_
    | refine J_skip ?_
    | refine J_ret ?_
    | refine seqQ_ret ?_
    | refine blockQ_ret ?_
    | refine loopQ_exit ?_
    | refine loopQ_ret ?_
    | refine J_label ?_
    | refine J_scope ?_
    | refine scopeQ_normal ?_
    | refine scopeQ_exit ?_
    | refine scopeQ_ret ?_
  refine J_region ?_
  refine L_o rfl rfl rfl (O_alloc fun b2 => ?_)
  refine JL_nil ?_
  repeat first
    | refine J_seq ?_
    | refine seqQ_normal ?_
    | refine J_condT rfl ?_
    | refine J_condF rfl ?_
    | refine J_block ?_
    | refine blockQ_normal ?_
    | refine J_exit ?_
    | refine seqQ_exit ?_
    | refine blockQ_hit ?_
    | refine blockQ_miss rfl ?_
    | refine J_skip ?_
    | refine J_ret ?_
    | refine seqQ_ret ?_
    | refine blockQ_ret ?_
    | refine loopQ_exit ?_
    | refine loopQ_ret ?_
    | refine J_label ?_
    | refine J_scope ?_
    | refine scopeQ_normal ?_
    | refine scopeQ_exit ?_
    | refine scopeQ_ret ?_
  repeat first
    | refine J_seq ?_
    | refine seqQ_normal ?_
    | refine J_condT rfl ?_
    | refine J_condF rfl ?_
    | refine J_block ?_
    | refine blockQ_normal ?_
    | refine J_exit ?_
    | refine seqQ_exit ?_
    | refine blockQ_hit ?_
    | refine blockQ_miss rfl ?_
    | refine J_skip ?_
    | refine J_ret ?_
    | refine seqQ_ret ?_
    | refine blockQ_ret ?_
    | refine loopQ_exit ?_
    | refine loopQ_ret ?_
    | refine J_label ?_
    | refine J_scope ?_
    | refine scopeQ_normal ?_
    | refine scopeQ_exit ?_
    | refine scopeQ_ret ?_
  refine J_region ?_
  refine L_q (Q_move rfl) rfl rfl rfl ?_
  refine L_o rfl rfl rfl (O_call [] [0,1] (rwsize_ok E z) rfl rfl ?_)
  rintro _ _ ⟨rfl, rfl⟩
  refine JL.norm ?_
  refine L_q (Q_build rfl) rfl rfl rfl ?_
  first
    | refine L_s rfl rfl (O_stW 0 rfl rfl rfl rfl ?_)
    | refine L_s rfl rfl (O_stW 1 rfl rfl rfl rfl ?_)
    | refine L_s rfl rfl (O_stW 2 rfl rfl rfl rfl ?_)
    | refine L_s rfl rfl (O_stW 3 rfl rfl rfl rfl ?_)
    | refine L_s rfl rfl (O_stW 4 rfl rfl rfl rfl ?_)
    | refine L_s rfl rfl (O_stW 5 rfl rfl rfl rfl ?_)
    | refine L_s rfl rfl (O_stW 6 rfl rfl rfl rfl ?_)
    | refine L_s rfl rfl (O_stW 7 rfl rfl rfl rfl ?_)
    | refine L_s rfl rfl (O_stW 8 rfl rfl rfl rfl ?_)
    | refine L_s rfl rfl (O_stW 9 rfl rfl rfl rfl ?_)
  refine JL.norm ?_
  refine JL_nil ?_
  repeat first
    | refine J_seq ?_
    | refine seqQ_normal ?_
    | refine J_condT rfl ?_
    | refine J_condF rfl ?_
    | refine J_block ?_
    | refine blockQ_normal ?_
    | refine J_exit ?_
    | refine seqQ_exit ?_
    | refine blockQ_hit ?_
    | refine blockQ_miss rfl ?_
    | refine J_skip ?_
    | refine J_ret ?_
    | refine seqQ_ret ?_
    | refine blockQ_ret ?_
    | refine loopQ_exit ?_
    | refine loopQ_ret ?_
    | refine J_label ?_
    | refine J_scope ?_
    | refine scopeQ_normal ?_
    | refine scopeQ_exit ?_
    | refine scopeQ_ret ?_
  exact retQ_ret _ [] (.cons (RV_cell 0 rfl rfl rfl rfl) .nil) ⟨rfl, rfl⟩ (Ent.re [1] rfl)
theorem rtopen_ok (E : World) (most : Nat) (X : SV) (l : List Op3) (hl : l.length ≤ 1000) : Does Try.prog E 27 [refT most X] [slc tO true X l] fun v L => ∃ S : SV, v = S.v ∧ L = [slc tO true X l, slc tZ true S (l.map fun x : Op3 => x.1)] := by
  refine Does.of Try.func27 rfl Try.ntmps27 rfl rfl fun F => ?_
  refine J.norm ?_
  repeat first
    | refine J_seq ?_
    | refine seqQ_normal ?_
    | refine J_condT rfl ?_
    | refine J_condF rfl ?_
    | refine J_block ?_
    | refine blockQ_normal ?_
    | refine J_exit ?_
    | refine seqQ_exit ?_
    | refine blockQ_hit ?_
    | refine blockQ_miss rfl ?_
    | refine J_skip ?_
    | refine J_ret ?_
    | refine seqQ_ret ?_
    | refine blockQ_ret ?_
    | refine loopQ_exit ?_
    | refine loopQ_ret ?_
    | refine J_label ?_
    | refine J_scope ?_
    | refine scopeQ_normal ?_
    | refine scopeQ_exit ?_
    | refine scopeQ_ret ?_
  refine J_region ?_
  refine L_o rfl rfl rfl (O_box rfl fun b1 => ?_)
  refine L_q (Q_assign rfl) rfl rfl rfl ?_
  refine JL_nil ?_
  repeat first
    | refine J_seq ?_
    | refine seqQ_normal ?_
    | refine J_condT rfl ?_
    | refine J_condF rfl ?_
    | refine J_block ?_
    | refine blockQ_normal ?_
    | refine J_exit ?_
    | refine seqQ_exit ?_
    | refine blockQ_hit ?_
    | refine blockQ_miss rfl ?_
    | refine J_skip ?_
    | refine J_ret ?_
    | refine seqQ_ret ?_
    | refine blockQ_ret ?_
    | refine loopQ_exit ?_
    | refine loopQ_ret ?_
    | refine J_label ?_
    | refine J_scope ?_
    | refine scopeQ_normal ?_
    | refine scopeQ_exit ?_
    | refine scopeQ_ret ?_
  repeat first
    | refine J_seq ?_
    | refine seqQ_normal ?_
    | refine J_condT rfl ?_
    | refine J_condF rfl ?_
    | refine J_block ?_
    | refine blockQ_normal ?_
    | refine J_exit ?_
    | refine seqQ_exit ?_
    | refine blockQ_hit ?_
    | refine blockQ_miss rfl ?_
    | refine J_skip ?_
    | refine J_ret ?_
    | refine seqQ_ret ?_
    | refine blockQ_ret ?_
    | refine loopQ_exit ?_
    | refine loopQ_ret ?_
    | refine J_label ?_
    | refine J_scope ?_
    | refine scopeQ_normal ?_
    | refine scopeQ_exit ?_
    | refine scopeQ_ret ?_
  refine J_region ?_
  refine L_q (Q_assign rfl) rfl rfl rfl ?_
  refine JL_nil ?_
  repeat first
    | refine J_seq ?_
    | refine seqQ_normal ?_
    | refine J_condT rfl ?_
    | refine J_condF rfl ?_
    | refine J_block ?_
    | refine blockQ_normal ?_
    | refine J_exit ?_
    | refine seqQ_exit ?_
    | refine blockQ_hit ?_
    | refine blockQ_miss rfl ?_
    | refine J_skip ?_
    | refine J_ret ?_
    | refine seqQ_ret ?_
    | refine blockQ_ret ?_
    | refine loopQ_exit ?_
    | refine loopQ_ret ?_
    | refine J_label ?_
    | refine J_scope ?_
    | refine scopeQ_normal ?_
    | refine scopeQ_exit ?_
    | refine scopeQ_ret ?_
  repeat first
    | refine J_seq ?_
    | refine seqQ_normal ?_
    | refine J_condT rfl ?_
    | refine J_condF rfl ?_
    | refine J_block ?_
    | refine blockQ_normal ?_
    | refine J_exit ?_
    | refine seqQ_exit ?_
    | refine blockQ_hit ?_
    | refine blockQ_miss rfl ?_
    | refine J_skip ?_
    | refine J_ret ?_
    | refine seqQ_ret ?_
    | refine blockQ_ret ?_
    | refine loopQ_exit ?_
    | refine loopQ_ret ?_
    | refine J_label ?_
    | refine J_scope ?_
    | refine scopeQ_normal ?_
    | refine scopeQ_exit ?_
    | refine scopeQ_ret ?_
  refine J_region ?_
  refine L_q (Q_assign rfl) rfl rfl rfl ?_
  refine JL_nil ?_
  repeat first
    | refine J_seq ?_
    | refine seqQ_normal ?_
    | refine J_condT rfl ?_
    | refine J_condF rfl ?_
    | refine J_block ?_
    | refine blockQ_normal ?_
    | refine J_exit ?_
    | refine seqQ_exit ?_
    | refine blockQ_hit ?_
    | refine blockQ_miss rfl ?_
    | refine J_skip ?_
    | refine J_ret ?_
    | refine seqQ_ret ?_
    | refine blockQ_ret ?_
    | refine loopQ_exit ?_
    | refine loopQ_ret ?_
    | refine J_label ?_
    | refine J_scope ?_
    | refine scopeQ_normal ?_
    | refine scopeQ_exit ?_
    | refine scopeQ_ret ?_
  refine J.ent (Ent.mk fun _ _ h => (h.lay_nil tZ true : Sat _ _ (slc tZ true SV.nil [] :: _))) ?_
  refine J_loop (fun i : Nat × SV => i.1 ≤ l.length) (fun i => [(1, .pointer (some ⟨b1, 0, none⟩)), (3, i.2.v), (4, .int .i64 (i.1 : Int))])
    (fun i => [slc tZ true i.2 ((l.take i.1).map fun x : Op3 => x.1), cel b1 [.int .i64 (most : Int), X.v] 41, slc tO true X l, F]) (fun i => l.length - i.1) (0, SV.nil) (by simp) ⟨rfl, rfl, rfl, trivial⟩ (Ent.refl _) ?_
  rintro ⟨k, S⟩ hk
  dsimp only at hk ⊢
  repeat first
    | refine J_seq ?_
    | refine seqQ_normal ?_
    | refine J_condT rfl ?_
    | refine J_condF rfl ?_
    | refine J_block ?_
    | refine blockQ_normal ?_
    | refine J_exit ?_
    | refine seqQ_exit ?_
    | refine blockQ_hit ?_
    | refine blockQ_miss rfl ?_
    | refine J_skip ?_
    | refine J_ret ?_
    | refine seqQ_ret ?_
    | refine blockQ_ret ?_
    | refine loopQ_exit ?_
    | refine loopQ_ret ?_
    | refine J_label ?_
    | refine J_scope ?_
    | refine scopeQ_normal ?_
    | refine scopeQ_exit ?_
    | refine scopeQ_ret ?_
  refine J_region ?_
  refine L_q (Q_move rfl) rfl rfl rfl ?_
  first
    | refine L_q (Q_fa0 rfl) rfl rfl rfl ?_
    | refine L_q (Q_fa rfl rfl) rfl rfl rfl ?_
    | refine L_q (Q_pfa rfl) rfl rfl rfl ?_
  first
    | refine L_q (Q_ld 0 rfl rfl rfl rfl) rfl rfl rfl ?_
    | refine L_q (Q_ld 1 rfl rfl rfl rfl) rfl rfl rfl ?_
    | refine L_q (Q_ld 2 rfl rfl rfl rfl) rfl rfl rfl ?_
    | refine L_q (Q_ld 3 rfl rfl rfl rfl) rfl rfl rfl ?_
    | refine L_q (Q_ld 4 rfl rfl rfl rfl) rfl rfl rfl ?_
    | refine L_q (Q_ld 5 rfl rfl rfl rfl) rfl rfl rfl ?_
    | refine L_q (Q_ld 6 rfl rfl rfl rfl) rfl rfl rfl ?_
    | refine L_q (Q_ld 7 rfl rfl rfl rfl) rfl rfl rfl ?_
    | refine L_q (Q_ld 8 rfl rfl rfl rfl) rfl rfl rfl ?_
    | refine L_q (Q_ld 9 rfl rfl rfl rfl) rfl rfl rfl ?_
  first
    | refine L_q (Q_lenAt 0 rfl rfl) rfl rfl rfl ?_
    | refine L_q (Q_lenAt 1 rfl rfl) rfl rfl rfl ?_
    | refine L_q (Q_lenAt 2 rfl rfl) rfl rfl rfl ?_
    | refine L_q (Q_lenAt 3 rfl rfl) rfl rfl rfl ?_
    | refine L_q (Q_lenAt 4 rfl rfl) rfl rfl rfl ?_
    | refine L_q (Q_lenAt 5 rfl rfl) rfl rfl rfl ?_
    | refine L_q (Q_lenAt 6 rfl rfl) rfl rfl rfl ?_
    | refine L_q (Q_lenAt 7 rfl rfl) rfl rfl rfl ?_
    | refine L_q (Q_lenAt 8 rfl rfl) rfl rfl rfl ?_
    | refine L_q (Q_lenAt 9 rfl rfl) rfl rfl rfl ?_
  refine L_q (Q_lss rfl rfl) rfl rfl rfl ?_
  refine JL_nil ?_
  repeat first
    | refine J_seq ?_
    | refine seqQ_normal ?_
    | refine J_condT rfl ?_
    | refine J_condF rfl ?_
    | refine J_block ?_
    | refine blockQ_normal ?_
    | refine J_exit ?_
    | refine seqQ_exit ?_
    | refine blockQ_hit ?_
    | refine blockQ_miss rfl ?_
    | refine J_skip ?_
    | refine J_ret ?_
    | refine seqQ_ret ?_
    | refine blockQ_ret ?_
    | refine loopQ_exit ?_
    | refine loopQ_ret ?_
    | refine J_label ?_
    | refine J_scope ?_
    | refine scopeQ_normal ?_
    | refine scopeQ_exit ?_
    | refine scopeQ_ret ?_
  refine J_condD rfl (fun h => ?_) (fun h => ?_)
  · have hlt : k < l.length := by omega
    have hs : (l.take (k + 1)).map (fun x : Op3 => x.1) = (l.take k).map (fun x : Op3 => x.1) ++ [l[k].1] := by rw [List.take_succ_eq_append_getElem hlt, List.map_append]; rfl
    have hsl : ((l.take k).map (fun x : Op3 => x.1)).length ≤ 1000 := by simp; omega
    repeat first
      | refine J_seq ?_
      | refine seqQ_normal ?_
      | refine J_condT rfl ?_
      | refine J_condF rfl ?_
      | refine J_block ?_
      | refine blockQ_normal ?_
      | refine J_exit ?_
      | refine seqQ_exit ?_
      | refine blockQ_hit ?_
      | refine blockQ_miss rfl ?_
      | refine J_skip ?_
      | refine J_ret ?_
      | refine seqQ_ret ?_
      | refine blockQ_ret ?_
      | refine loopQ_exit ?_
      | refine loopQ_ret ?_
      | refine J_label ?_
      | refine J_scope ?_
      | refine scopeQ_normal ?_
      | refine scopeQ_exit ?_
      | refine scopeQ_ret ?_
    refine J_region ?_
    refine L_q (Q_move rfl) rfl rfl rfl ?_
    first
      | refine L_q (Q_fa0 rfl) rfl rfl rfl ?_
      | refine L_q (Q_fa rfl rfl) rfl rfl rfl ?_
      | refine L_q (Q_pfa rfl) rfl rfl rfl ?_
    first
      | refine L_q (Q_ld 0 rfl rfl rfl rfl) rfl rfl rfl ?_
      | refine L_q (Q_ld 1 rfl rfl rfl rfl) rfl rfl rfl ?_
      | refine L_q (Q_ld 2 rfl rfl rfl rfl) rfl rfl rfl ?_
      | refine L_q (Q_ld 3 rfl rfl rfl rfl) rfl rfl rfl ?_
      | refine L_q (Q_ld 4 rfl rfl rfl rfl) rfl rfl rfl ?_
      | refine L_q (Q_ld 5 rfl rfl rfl rfl) rfl rfl rfl ?_
      | refine L_q (Q_ld 6 rfl rfl rfl rfl) rfl rfl rfl ?_
      | refine L_q (Q_ld 7 rfl rfl rfl rfl) rfl rfl rfl ?_
      | refine L_q (Q_ld 8 rfl rfl rfl rfl) rfl rfl rfl ?_
      | refine L_q (Q_ld 9 rfl rfl rfl rfl) rfl rfl rfl ?_
    refine L_q (Q_move rfl) rfl rfl rfl ?_
    refine L_q (Q_ixAt 2 k rfl rfl rfl rfl hlt rfl) rfl rfl rfl ?_
    refine L_q (Q_pfa rfl) rfl rfl rfl ?_
    refine L_q (Q_ldEAt 2 k 0 (v := .int .i64 l[k].1) rfl rfl rfl rfl hlt (by decide) rfl) rfl rfl rfl ?_
    refine L_o rfl rfl rfl (O_litP (τ := tZ) (m := 1) (sz := 1) [l[k].1] rfl rfl rfl rfl rfl rfl (by decide) (fun S1 => ?_))
    refine JL.norm ?_
    refine L_o rfl rfl rfl (O_app (τ := tZ) 1 rfl (fun w h => h.rd 0 rfl) rfl rfl rfl rfl (by simp only [List.length_singleton]; omega) (by decide) (fun S2 => ?_))
    refine JL.norm ?_
    refine L_q (Q_assign rfl) rfl rfl rfl ?_
    refine JL_nil ?_
    repeat first
      | refine J_seq ?_
      | refine seqQ_normal ?_
      | refine J_condT rfl ?_
      | refine J_condF rfl ?_
      | refine J_block ?_
      | refine blockQ_normal ?_
      | refine J_exit ?_
      | refine seqQ_exit ?_
      | refine blockQ_hit ?_
      | refine blockQ_miss rfl ?_
      | refine J_skip ?_
      | refine J_ret ?_
      | refine seqQ_ret ?_
      | refine blockQ_ret ?_
      | refine loopQ_exit ?_
      | refine loopQ_ret ?_
      | refine J_label ?_
      | refine J_scope ?_
      | refine scopeQ_normal ?_
      | refine scopeQ_exit ?_
      | refine scopeQ_ret ?_
    repeat first
      | refine J_seq ?_
      | refine seqQ_normal ?_
      | refine J_condT rfl ?_
      | refine J_condF rfl ?_
      | refine J_block ?_
      | refine blockQ_normal ?_
      | refine J_exit ?_
      | refine seqQ_exit ?_
      | refine blockQ_hit ?_
      | refine blockQ_miss rfl ?_
      | refine J_skip ?_
      | refine J_ret ?_
      | refine seqQ_ret ?_
      | refine blockQ_ret ?_
      | refine loopQ_exit ?_
      | refine loopQ_ret ?_
      | refine J_label ?_
      | refine J_scope ?_
      | refine scopeQ_normal ?_
      | refine scopeQ_exit ?_
      | refine scopeQ_ret ?_
    refine J_region ?_
    refine L_q (Q_move rfl) rfl rfl rfl ?_
    refine L_q (Q_add rfl rfl (by first | exact IntWalk.i64_in _ (by omega) | exact IntWalk.u8_in _ (by omega) | exact IntWalk.u32_in _ (by omega) | exact IntWalk.u64_in _ (by omega) | rfl)) rfl rfl rfl ?_
    refine L_q (Q_assign rfl) rfl rfl rfl ?_
    refine JL_nil ?_
    repeat first
      | refine J_seq ?_
      | refine seqQ_normal ?_
      | refine J_condT rfl ?_
      | refine J_condF rfl ?_
      | refine J_block ?_
      | refine blockQ_normal ?_
      | refine J_exit ?_
      | refine seqQ_exit ?_
      | refine blockQ_hit ?_
      | refine blockQ_miss rfl ?_
      | refine J_skip ?_
      | refine J_ret ?_
      | refine seqQ_ret ?_
      | refine blockQ_ret ?_
      | refine loopQ_exit ?_
      | refine loopQ_ret ?_
      | refine J_label ?_
      | refine J_scope ?_
      | refine scopeQ_normal ?_
      | refine scopeQ_exit ?_
      | refine scopeQ_ret ?_
    exact loopQ_normal (k + 1, S2) hlt (by simp only; omega) ⟨rfl, rfl, rfl, trivial⟩ (by simp only; rw [hs]; exact Ent.re [1, 2, 3, 4] rfl)
  · obtain rfl : k = l.length := by omega
    rw [List.take_length]
    repeat first
      | refine J_seq ?_
      | refine seqQ_normal ?_
      | refine J_condT rfl ?_
      | refine J_condF rfl ?_
      | refine J_block ?_
      | refine blockQ_normal ?_
      | refine J_exit ?_
      | refine seqQ_exit ?_
      | refine blockQ_hit ?_
      | refine blockQ_miss rfl ?_
      | refine J_skip ?_
      | refine J_ret ?_
      | refine seqQ_ret ?_
      | refine blockQ_ret ?_
      | refine loopQ_exit ?_
      | refine loopQ_ret ?_
      | refine J_label ?_
      | refine J_scope ?_
      | refine scopeQ_normal ?_
      | refine scopeQ_exit ?_
      | refine scopeQ_ret ?_
    refine J_region ?_
    refine L_q (Q_move rfl) rfl rfl rfl ?_
    refine L_q (Q_assign rfl) rfl rfl rfl ?_
    refine JL_nil ?_
    repeat first
      | refine J_seq ?_
      | refine seqQ_normal ?_
      | refine J_condT rfl ?_
      | refine J_condF rfl ?_
      | refine J_block ?_
      | refine blockQ_normal ?_
      | refine J_exit ?_
      | refine seqQ_exit ?_
      | refine blockQ_hit ?_
      | refine blockQ_miss rfl ?_
      | refine J_skip ?_
      | refine J_ret ?_
      | refine seqQ_ret ?_
      | refine blockQ_ret ?_
      | refine loopQ_exit ?_
      | refine loopQ_ret ?_
      | refine J_label ?_
      | refine J_scope ?_
      | refine scopeQ_normal ?_
      | refine scopeQ_exit ?_
      | refine scopeQ_ret ?_
    exact retQ_ret _ [slc tO true X l, slc tZ true S (l.map fun x : Op3 => x.1)] (.cons (RV_tmp rfl) .nil) ⟨S, rfl, rfl⟩ (Ent.re [2, 0, 3] rfl)
theorem rtacked_ok (E : World) (most : Nat) (X : SV) (l : List Op3) (u : Int) (hl : l.length ≤ 1000) : Does Try.prog E 24 [refT most X, .int .i64 u] [slc tO true X l] fun v L => ∃ X' : SV, v = .tuple #[refT most X', .int .i64 ((l.length : Int) - ((ackL l u).length : Int))] ∧ L = [slc tO true X' (ackL l u)] := by
  refine Does.of Try.func24 rfl Try.ntmps24 rfl rfl fun F => ?_
  refine J.norm ?_
  repeat first
    | refine J_seq ?_
    | refine seqQ_normal ?_
    | refine J_condT rfl ?_
    | refine J_condF rfl ?_
    | refine J_block ?_
    | refine blockQ_normal ?_
    | refine J_exit ?_
    | refine seqQ_exit ?_
    | refine blockQ_hit ?_
    | refine blockQ_miss rfl ?_
    | refine J_skip ?_
    | refine J_ret ?_
    | refine seqQ_ret ?_
    | refine blockQ_ret ?_
    | refine loopQ_exit ?_
    | refine loopQ_ret ?_
    | refine J_label ?_
    | refine J_scope ?_
    | refine scopeQ_normal ?_
    | refine scopeQ_exit ?_
    | refine scopeQ_ret ?_
  refine J_region ?_
  refine L_o rfl rfl rfl (O_box rfl fun b2 => ?_)
  refine L_o rfl rfl rfl (O_alloc fun b4 => ?_)
  refine L_q (Q_assign rfl) rfl rfl rfl ?_
  refine JL_nil ?_
  repeat first
    | refine J_seq ?_
    | refine seqQ_normal ?_
    | refine J_condT rfl ?_
    | refine J_condF rfl ?_
    | refine J_block ?_
    | refine blockQ_normal ?_
    | refine J_exit ?_
    | refine seqQ_exit ?_
    | refine blockQ_hit ?_
    | refine blockQ_miss rfl ?_
    | refine J_skip ?_
    | refine J_ret ?_
    | refine seqQ_ret ?_
    | refine blockQ_ret ?_
    | refine loopQ_exit ?_
    | refine loopQ_ret ?_
    | refine J_label ?_
    | refine J_scope ?_
    | refine scopeQ_normal ?_
    | refine scopeQ_exit ?_
    | refine scopeQ_ret ?_
  repeat first
    | refine J_seq ?_
    | refine seqQ_normal ?_
    | refine J_condT rfl ?_
    | refine J_condF rfl ?_
    | refine J_block ?_
    | refine blockQ_normal ?_
    | refine J_exit ?_
    | refine seqQ_exit ?_
    | refine blockQ_hit ?_
    | refine blockQ_miss rfl ?_
    | refine J_skip ?_
    | refine J_ret ?_
    | refine seqQ_ret ?_
    | refine blockQ_ret ?_
    | refine loopQ_exit ?_
    | refine loopQ_ret ?_
    | refine J_label ?_
    | refine J_scope ?_
    | refine scopeQ_normal ?_
    | refine scopeQ_exit ?_
    | refine scopeQ_ret ?_
  refine J_region ?_
  refine L_q (Q_assign rfl) rfl rfl rfl ?_
  refine JL_nil ?_
  repeat first
    | refine J_seq ?_
    | refine seqQ_normal ?_
    | refine J_condT rfl ?_
    | refine J_condF rfl ?_
    | refine J_block ?_
    | refine blockQ_normal ?_
    | refine J_exit ?_
    | refine seqQ_exit ?_
    | refine blockQ_hit ?_
    | refine blockQ_miss rfl ?_
    | refine J_skip ?_
    | refine J_ret ?_
    | refine seqQ_ret ?_
    | refine blockQ_ret ?_
    | refine loopQ_exit ?_
    | refine loopQ_ret ?_
    | refine J_label ?_
    | refine J_scope ?_
    | refine scopeQ_normal ?_
    | refine scopeQ_exit ?_
    | refine scopeQ_ret ?_
  repeat first
    | refine J_seq ?_
    | refine seqQ_normal ?_
    | refine J_condT rfl ?_
    | refine J_condF rfl ?_
    | refine J_block ?_
    | refine blockQ_normal ?_
    | refine J_exit ?_
    | refine seqQ_exit ?_
    | refine blockQ_hit ?_
    | refine blockQ_miss rfl ?_
    | refine J_skip ?_
    | refine J_ret ?_
    | refine seqQ_ret ?_
    | refine blockQ_ret ?_
    | refine loopQ_exit ?_
    | refine loopQ_ret ?_
    | refine J_label ?_
    | refine J_scope ?_
    | refine scopeQ_normal ?_
    | refine scopeQ_exit ?_
    | refine scopeQ_ret ?_
  refine J_region ?_
  refine L_q (Q_assign rfl) rfl rfl rfl ?_
  refine JL_nil ?_
  repeat first
    | refine J_seq ?_
    | refine seqQ_normal ?_
    | refine J_condT rfl ?_
    | refine J_condF rfl ?_
    | refine J_block ?_
    | refine blockQ_normal ?_
    | refine J_exit ?_
    | refine seqQ_exit ?_
    | refine blockQ_hit ?_
    | refine blockQ_miss rfl ?_
    | refine J_skip ?_
    | refine J_ret ?_
    | refine seqQ_ret ?_
    | refine blockQ_ret ?_
    | refine loopQ_exit ?_
    | refine loopQ_ret ?_
    | refine J_label ?_
    | refine J_scope ?_
    | refine scopeQ_normal ?_
    | refine scopeQ_exit ?_
    | refine scopeQ_ret ?_
  refine J.ent (Ent.mk fun _ _ h => (h.lay_nil tO true : Sat _ _ (slc tO true SV.nil [] :: _))) ?_
  refine J_loop (fun i : Nat × SV => i.1 ≤ l.length) (fun i => [(1, .int .i64 u), (2, .pointer (some ⟨b2, 0, none⟩)), (4, .pointer (some ⟨b4, 0, none⟩)), (6, i.2.v), (7, .int .i64 (i.1 : Int))])
    (fun i => [slc tO true i.2 (ackL (l.take i.1) u), cel b4 [.int .i64 0, .slice none 0 0] 41, cel b2 [.int .i64 (most : Int), X.v] 41, slc tO true X l, F]) (fun i => l.length - i.1) (0, SV.nil) (by simp) ⟨rfl, rfl, rfl, rfl, rfl, trivial⟩ (Ent.refl _) ?_
  rintro ⟨k, S⟩ hk
  dsimp only at hk ⊢
  have hal : (ackL (l.take k) u).length ≤ k := by
    have := List.length_filter_le (fun x : Op3 => decide (u ≤ x.1)) (l.take k)
    rw [List.length_take] at this
    unfold ackL; omega
  repeat first
    | refine J_seq ?_
    | refine seqQ_normal ?_
    | refine J_condT rfl ?_
    | refine J_condF rfl ?_
    | refine J_block ?_
    | refine blockQ_normal ?_
    | refine J_exit ?_
    | refine seqQ_exit ?_
    | refine blockQ_hit ?_
    | refine blockQ_miss rfl ?_
    | refine J_skip ?_
    | refine J_ret ?_
    | refine seqQ_ret ?_
    | refine blockQ_ret ?_
    | refine loopQ_exit ?_
    | refine loopQ_ret ?_
    | refine J_label ?_
    | refine J_scope ?_
    | refine scopeQ_normal ?_
    | refine scopeQ_exit ?_
    | refine scopeQ_ret ?_
  refine J_region ?_
  refine L_q (Q_move rfl) rfl rfl rfl ?_
  first
    | refine L_q (Q_fa0 rfl) rfl rfl rfl ?_
    | refine L_q (Q_fa rfl rfl) rfl rfl rfl ?_
    | refine L_q (Q_pfa rfl) rfl rfl rfl ?_
  first
    | refine L_q (Q_ld 0 rfl rfl rfl rfl) rfl rfl rfl ?_
    | refine L_q (Q_ld 1 rfl rfl rfl rfl) rfl rfl rfl ?_
    | refine L_q (Q_ld 2 rfl rfl rfl rfl) rfl rfl rfl ?_
    | refine L_q (Q_ld 3 rfl rfl rfl rfl) rfl rfl rfl ?_
    | refine L_q (Q_ld 4 rfl rfl rfl rfl) rfl rfl rfl ?_
    | refine L_q (Q_ld 5 rfl rfl rfl rfl) rfl rfl rfl ?_
    | refine L_q (Q_ld 6 rfl rfl rfl rfl) rfl rfl rfl ?_
    | refine L_q (Q_ld 7 rfl rfl rfl rfl) rfl rfl rfl ?_
    | refine L_q (Q_ld 8 rfl rfl rfl rfl) rfl rfl rfl ?_
    | refine L_q (Q_ld 9 rfl rfl rfl rfl) rfl rfl rfl ?_
  first
    | refine L_q (Q_lenAt 0 rfl rfl) rfl rfl rfl ?_
    | refine L_q (Q_lenAt 1 rfl rfl) rfl rfl rfl ?_
    | refine L_q (Q_lenAt 2 rfl rfl) rfl rfl rfl ?_
    | refine L_q (Q_lenAt 3 rfl rfl) rfl rfl rfl ?_
    | refine L_q (Q_lenAt 4 rfl rfl) rfl rfl rfl ?_
    | refine L_q (Q_lenAt 5 rfl rfl) rfl rfl rfl ?_
    | refine L_q (Q_lenAt 6 rfl rfl) rfl rfl rfl ?_
    | refine L_q (Q_lenAt 7 rfl rfl) rfl rfl rfl ?_
    | refine L_q (Q_lenAt 8 rfl rfl) rfl rfl rfl ?_
    | refine L_q (Q_lenAt 9 rfl rfl) rfl rfl rfl ?_
  refine L_q (Q_lss rfl rfl) rfl rfl rfl ?_
  refine JL_nil ?_
  repeat first
    | refine J_seq ?_
    | refine seqQ_normal ?_
    | refine J_condT rfl ?_
    | refine J_condF rfl ?_
    | refine J_block ?_
    | refine blockQ_normal ?_
    | refine J_exit ?_
    | refine seqQ_exit ?_
    | refine blockQ_hit ?_
    | refine blockQ_miss rfl ?_
    | refine J_skip ?_
    | refine J_ret ?_
    | refine seqQ_ret ?_
    | refine blockQ_ret ?_
    | refine loopQ_exit ?_
    | refine loopQ_ret ?_
    | refine J_label ?_
    | refine J_scope ?_
    | refine scopeQ_normal ?_
    | refine scopeQ_exit ?_
    | refine scopeQ_ret ?_
  refine J_condD rfl (fun h => ?_) (fun h => ?_)
  · have hlt : k < l.length := by omega
    have hs : ackL (l.take (k + 1)) u = ackL (l.take k) u ++ ackL [l[k]] u := by unfold ackL; rw [List.take_succ_eq_append_getElem hlt, List.filter_append]
    by_cases hd : u ≤ l[k].1
    · have hax : ackL [l[k]] u = [l[k]] := by simp [ackL, hd]
      repeat first
        | refine J_seq ?_
        | refine seqQ_normal ?_
        | refine J_condT rfl ?_
        | refine J_condF rfl ?_
        | refine J_block ?_
        | refine blockQ_normal ?_
        | refine J_exit ?_
        | refine seqQ_exit ?_
        | refine blockQ_hit ?_
        | refine blockQ_miss rfl ?_
        | refine J_skip ?_
        | refine J_ret ?_
        | refine seqQ_ret ?_
        | refine blockQ_ret ?_
        | refine loopQ_exit ?_
        | refine loopQ_ret ?_
        | refine J_label ?_
        | refine J_scope ?_
        | refine scopeQ_normal ?_
        | refine scopeQ_exit ?_
        | refine scopeQ_ret ?_
      refine J_region ?_
      first
        | refine L_q (Q_fa0 rfl) rfl rfl rfl ?_
        | refine L_q (Q_fa rfl rfl) rfl rfl rfl ?_
        | refine L_q (Q_pfa rfl) rfl rfl rfl ?_
      first
        | refine L_q (Q_ld 0 rfl rfl rfl rfl) rfl rfl rfl ?_
        | refine L_q (Q_ld 1 rfl rfl rfl rfl) rfl rfl rfl ?_
        | refine L_q (Q_ld 2 rfl rfl rfl rfl) rfl rfl rfl ?_
        | refine L_q (Q_ld 3 rfl rfl rfl rfl) rfl rfl rfl ?_
        | refine L_q (Q_ld 4 rfl rfl rfl rfl) rfl rfl rfl ?_
        | refine L_q (Q_ld 5 rfl rfl rfl rfl) rfl rfl rfl ?_
        | refine L_q (Q_ld 6 rfl rfl rfl rfl) rfl rfl rfl ?_
        | refine L_q (Q_ld 7 rfl rfl rfl rfl) rfl rfl rfl ?_
        | refine L_q (Q_ld 8 rfl rfl rfl rfl) rfl rfl rfl ?_
        | refine L_q (Q_ld 9 rfl rfl rfl rfl) rfl rfl rfl ?_
      refine L_q (Q_move rfl) rfl rfl rfl ?_
      refine L_q (Q_ixAt 3 k rfl rfl rfl rfl hlt rfl) rfl rfl rfl ?_
      refine L_q (Q_pfa rfl) rfl rfl rfl ?_
      refine L_q (Q_ldEAt 3 k 0 (v := .int .i64 l[k].1) rfl rfl rfl rfl hlt (by decide) rfl) rfl rfl rfl ?_
      refine L_q (Q_move rfl) rfl rfl rfl ?_
      refine L_q ((Q_geq rfl rfl).as (v' := .bool true) (congrArg Value.bool (decide_eq_true hd))) rfl rfl rfl ?_
      refine JL_nil ?_
      repeat first
        | refine J_seq ?_
        | refine seqQ_normal ?_
        | refine J_condT rfl ?_
        | refine J_condF rfl ?_
        | refine J_block ?_
        | refine blockQ_normal ?_
        | refine J_exit ?_
        | refine seqQ_exit ?_
        | refine blockQ_hit ?_
        | refine blockQ_miss rfl ?_
        | refine J_skip ?_
        | refine J_ret ?_
        | refine seqQ_ret ?_
        | refine blockQ_ret ?_
        | refine loopQ_exit ?_
        | refine loopQ_ret ?_
        | refine J_label ?_
        | refine J_scope ?_
        | refine scopeQ_normal ?_
        | refine scopeQ_exit ?_
        | refine scopeQ_ret ?_
      repeat first
        | refine J_seq ?_
        | refine seqQ_normal ?_
        | refine J_condT rfl ?_
        | refine J_condF rfl ?_
        | refine J_block ?_
        | refine blockQ_normal ?_
        | refine J_exit ?_
        | refine seqQ_exit ?_
        | refine blockQ_hit ?_
        | refine blockQ_miss rfl ?_
        | refine J_skip ?_
        | refine J_ret ?_
        | refine seqQ_ret ?_
        | refine blockQ_ret ?_
        | refine loopQ_exit ?_
        | refine loopQ_ret ?_
        | refine J_label ?_
        | refine J_scope ?_
        | refine scopeQ_normal ?_
        | refine scopeQ_exit ?_
        | refine scopeQ_ret ?_
      refine J_region ?_
      refine L_q (Q_move rfl) rfl rfl rfl ?_
      first
        | refine L_q (Q_fa0 rfl) rfl rfl rfl ?_
        | refine L_q (Q_fa rfl rfl) rfl rfl rfl ?_
        | refine L_q (Q_pfa rfl) rfl rfl rfl ?_
      first
        | refine L_q (Q_ld 0 rfl rfl rfl rfl) rfl rfl rfl ?_
        | refine L_q (Q_ld 1 rfl rfl rfl rfl) rfl rfl rfl ?_
        | refine L_q (Q_ld 2 rfl rfl rfl rfl) rfl rfl rfl ?_
        | refine L_q (Q_ld 3 rfl rfl rfl rfl) rfl rfl rfl ?_
        | refine L_q (Q_ld 4 rfl rfl rfl rfl) rfl rfl rfl ?_
        | refine L_q (Q_ld 5 rfl rfl rfl rfl) rfl rfl rfl ?_
        | refine L_q (Q_ld 6 rfl rfl rfl rfl) rfl rfl rfl ?_
        | refine L_q (Q_ld 7 rfl rfl rfl rfl) rfl rfl rfl ?_
        | refine L_q (Q_ld 8 rfl rfl rfl rfl) rfl rfl rfl ?_
        | refine L_q (Q_ld 9 rfl rfl rfl rfl) rfl rfl rfl ?_
      refine L_q (Q_move rfl) rfl rfl rfl ?_
      refine L_q (Q_ixAt 3 k rfl rfl rfl rfl hlt rfl) rfl rfl rfl ?_
      refine L_q (Q_ldEAAt 3 k 0 (vs := [.int .i64 l[k].1, .int .i64 l[k].2.1, .int .i64 l[k].2.2]) rfl rfl rfl rfl hlt (by decide) rfl) rfl rfl rfl ?_
      refine L_o rfl rfl rfl (O_litP (τ := tO) (m := 1) (sz := 3) [l[k]] rfl rfl rfl rfl rfl rfl (by decide) (fun S1 => ?_))
      refine JL.norm ?_
      refine L_o rfl rfl rfl (O_app (τ := tO) 1 rfl (fun w h => h.rd 0 rfl) rfl rfl rfl rfl (by simp only [List.length_singleton]; omega) (by decide) (fun S2 => ?_))
      refine JL.norm ?_
      refine L_q (Q_assign rfl) rfl rfl rfl ?_
      refine JL_nil ?_
      repeat first
        | refine J_seq ?_
        | refine seqQ_normal ?_
        | refine J_condT rfl ?_
        | refine J_condF rfl ?_
        | refine J_block ?_
        | refine blockQ_normal ?_
        | refine J_exit ?_
        | refine seqQ_exit ?_
        | refine blockQ_hit ?_
        | refine blockQ_miss rfl ?_
        | refine J_skip ?_
        | refine J_ret ?_
        | refine seqQ_ret ?_
        | refine blockQ_ret ?_
        | refine loopQ_exit ?_
        | refine loopQ_ret ?_
        | refine J_label ?_
        | refine J_scope ?_
        | refine scopeQ_normal ?_
        | refine scopeQ_exit ?_
        | refine scopeQ_ret ?_
      repeat first
        | refine J_seq ?_
        | refine seqQ_normal ?_
        | refine J_condT rfl ?_
        | refine J_condF rfl ?_
        | refine J_block ?_
        | refine blockQ_normal ?_
        | refine J_exit ?_
        | refine seqQ_exit ?_
        | refine blockQ_hit ?_
        | refine blockQ_miss rfl ?_
        | refine J_skip ?_
        | refine J_ret ?_
        | refine seqQ_ret ?_
        | refine blockQ_ret ?_
        | refine loopQ_exit ?_
        | refine loopQ_ret ?_
        | refine J_label ?_
        | refine J_scope ?_
        | refine scopeQ_normal ?_
        | refine scopeQ_exit ?_
        | refine scopeQ_ret ?_
      refine J_region ?_
      refine L_q (Q_move rfl) rfl rfl rfl ?_
      refine L_q (Q_add rfl rfl (by first | exact IntWalk.i64_in _ (by omega) | exact IntWalk.u8_in _ (by omega) | exact IntWalk.u32_in _ (by omega) | exact IntWalk.u64_in _ (by omega) | rfl)) rfl rfl rfl ?_
      refine L_q (Q_assign rfl) rfl rfl rfl ?_
      refine JL_nil ?_
      repeat first
        | refine J_seq ?_
        | refine seqQ_normal ?_
        | refine J_condT rfl ?_
        | refine J_condF rfl ?_
        | refine J_block ?_
        | refine blockQ_normal ?_
        | refine J_exit ?_
        | refine seqQ_exit ?_
        | refine blockQ_hit ?_
        | refine blockQ_miss rfl ?_
        | refine J_skip ?_
        | refine J_ret ?_
        | refine seqQ_ret ?_
        | refine blockQ_ret ?_
        | refine loopQ_exit ?_
        | refine loopQ_ret ?_
        | refine J_label ?_
        | refine J_scope ?_
        | refine scopeQ_normal ?_
        | refine scopeQ_exit ?_
        | refine scopeQ_ret ?_
      exact loopQ_normal (k + 1, S2) hlt (by simp only; omega) ⟨rfl, rfl, rfl, rfl, rfl, trivial⟩ (by simp only; rw [hs, hax]; exact Ent.re [1, 2, 3, 4, 5] rfl)
    · have hax : ackL [l[k]] u = [] := by simp [ackL]; omega
      repeat first
        | refine J_seq ?_
        | refine seqQ_normal ?_
        | refine J_condT rfl ?_
        | refine J_condF rfl ?_
        | refine J_block ?_
        | refine blockQ_normal ?_
        | refine J_exit ?_
        | refine seqQ_exit ?_
        | refine blockQ_hit ?_
        | refine blockQ_miss rfl ?_
        | refine J_skip ?_
        | refine J_ret ?_
        | refine seqQ_ret ?_
        | refine blockQ_ret ?_
        | refine loopQ_exit ?_
        | refine loopQ_ret ?_
        | refine J_label ?_
        | refine J_scope ?_
        | refine scopeQ_normal ?_
        | refine scopeQ_exit ?_
        | refine scopeQ_ret ?_
      refine J_region ?_
      first
        | refine L_q (Q_fa0 rfl) rfl rfl rfl ?_
        | refine L_q (Q_fa rfl rfl) rfl rfl rfl ?_
        | refine L_q (Q_pfa rfl) rfl rfl rfl ?_
      first
        | refine L_q (Q_ld 0 rfl rfl rfl rfl) rfl rfl rfl ?_
        | refine L_q (Q_ld 1 rfl rfl rfl rfl) rfl rfl rfl ?_
        | refine L_q (Q_ld 2 rfl rfl rfl rfl) rfl rfl rfl ?_
        | refine L_q (Q_ld 3 rfl rfl rfl rfl) rfl rfl rfl ?_
        | refine L_q (Q_ld 4 rfl rfl rfl rfl) rfl rfl rfl ?_
        | refine L_q (Q_ld 5 rfl rfl rfl rfl) rfl rfl rfl ?_
        | refine L_q (Q_ld 6 rfl rfl rfl rfl) rfl rfl rfl ?_
        | refine L_q (Q_ld 7 rfl rfl rfl rfl) rfl rfl rfl ?_
        | refine L_q (Q_ld 8 rfl rfl rfl rfl) rfl rfl rfl ?_
        | refine L_q (Q_ld 9 rfl rfl rfl rfl) rfl rfl rfl ?_
      refine L_q (Q_move rfl) rfl rfl rfl ?_
      refine L_q (Q_ixAt 3 k rfl rfl rfl rfl hlt rfl) rfl rfl rfl ?_
      refine L_q (Q_pfa rfl) rfl rfl rfl ?_
      refine L_q (Q_ldEAt 3 k 0 (v := .int .i64 l[k].1) rfl rfl rfl rfl hlt (by decide) rfl) rfl rfl rfl ?_
      refine L_q (Q_move rfl) rfl rfl rfl ?_
      refine L_q ((Q_geq rfl rfl).as (v' := .bool false) (congrArg Value.bool (decide_eq_false hd))) rfl rfl rfl ?_
      refine JL_nil ?_
      repeat first
        | refine J_seq ?_
        | refine seqQ_normal ?_
        | refine J_condT rfl ?_
        | refine J_condF rfl ?_
        | refine J_block ?_
        | refine blockQ_normal ?_
        | refine J_exit ?_
        | refine seqQ_exit ?_
        | refine blockQ_hit ?_
        | refine blockQ_miss rfl ?_
        | refine J_skip ?_
        | refine J_ret ?_
        | refine seqQ_ret ?_
        | refine blockQ_ret ?_
        | refine loopQ_exit ?_
        | refine loopQ_ret ?_
        | refine J_label ?_
        | refine J_scope ?_
        | refine scopeQ_normal ?_
        | refine scopeQ_exit ?_
        | refine scopeQ_ret ?_
      repeat first
        | refine J_seq ?_
        | refine seqQ_normal ?_
        | refine J_condT rfl ?_
        | refine J_condF rfl ?_
        | refine J_block ?_
        | refine blockQ_normal ?_
        | refine J_exit ?_
        | refine seqQ_exit ?_
        | refine blockQ_hit ?_
        | refine blockQ_miss rfl ?_
        | refine J_skip ?_
        | refine J_ret ?_
        | refine seqQ_ret ?_
        | refine blockQ_ret ?_
        | refine loopQ_exit ?_
        | refine loopQ_ret ?_
        | refine J_label ?_
        | refine J_scope ?_
        | refine scopeQ_normal ?_
        | refine scopeQ_exit ?_
        | refine scopeQ_ret ?_
      refine J_region ?_
      refine L_q (Q_move rfl) rfl rfl rfl ?_
      refine L_q (Q_add rfl rfl (by first | exact IntWalk.i64_in _ (by omega) | exact IntWalk.u8_in _ (by omega) | exact IntWalk.u32_in _ (by omega) | exact IntWalk.u64_in _ (by omega) | rfl)) rfl rfl rfl ?_
      refine L_q (Q_assign rfl) rfl rfl rfl ?_
      refine JL_nil ?_
      repeat first
        | refine J_seq ?_
        | refine seqQ_normal ?_
        | refine J_condT rfl ?_
        | refine J_condF rfl ?_
        | refine J_block ?_
        | refine blockQ_normal ?_
        | refine J_exit ?_
        | refine seqQ_exit ?_
        | refine blockQ_hit ?_
        | refine blockQ_miss rfl ?_
        | refine J_skip ?_
        | refine J_ret ?_
        | refine seqQ_ret ?_
        | refine blockQ_ret ?_
        | refine loopQ_exit ?_
        | refine loopQ_ret ?_
        | refine J_label ?_
        | refine J_scope ?_
        | refine scopeQ_normal ?_
        | refine scopeQ_exit ?_
        | refine scopeQ_ret ?_
      exact loopQ_normal (k + 1, S) hlt (by simp only; omega) ⟨rfl, rfl, rfl, rfl, rfl, trivial⟩ (by simp only; rw [hs, hax, List.append_nil]; exact Ent.refl _)
  · obtain rfl : k = l.length := by omega
    rw [List.take_length] at hal ⊢
    repeat first
      | refine J_seq ?_
      | refine seqQ_normal ?_
      | refine J_condT rfl ?_
      | refine J_condF rfl ?_
      | refine J_block ?_
      | refine blockQ_normal ?_
      | refine J_exit ?_
      | refine seqQ_exit ?_
      | refine blockQ_hit ?_
      | refine blockQ_miss rfl ?_
      | refine J_skip ?_
      | refine J_ret ?_
      | refine seqQ_ret ?_
      | refine blockQ_ret ?_
      | refine loopQ_exit ?_
      | refine loopQ_ret ?_
      | refine J_label ?_
      | refine J_scope ?_
      | refine scopeQ_normal ?_
      | refine scopeQ_exit ?_
      | refine scopeQ_ret ?_
    refine J_region ?_
    first
      | refine L_q (Q_fa0 rfl) rfl rfl rfl ?_
      | refine L_q (Q_fa rfl rfl) rfl rfl rfl ?_
      | refine L_q (Q_pfa rfl) rfl rfl rfl ?_
    first
      | refine L_q (Q_ld 0 rfl rfl rfl rfl) rfl rfl rfl ?_
      | refine L_q (Q_ld 1 rfl rfl rfl rfl) rfl rfl rfl ?_
      | refine L_q (Q_ld 2 rfl rfl rfl rfl) rfl rfl rfl ?_
      | refine L_q (Q_ld 3 rfl rfl rfl rfl) rfl rfl rfl ?_
      | refine L_q (Q_ld 4 rfl rfl rfl rfl) rfl rfl rfl ?_
      | refine L_q (Q_ld 5 rfl rfl rfl rfl) rfl rfl rfl ?_
      | refine L_q (Q_ld 6 rfl rfl rfl rfl) rfl rfl rfl ?_
      | refine L_q (Q_ld 7 rfl rfl rfl rfl) rfl rfl rfl ?_
      | refine L_q (Q_ld 8 rfl rfl rfl rfl) rfl rfl rfl ?_
      | refine L_q (Q_ld 9 rfl rfl rfl rfl) rfl rfl rfl ?_
    first
      | refine L_q (Q_lenAt 0 rfl rfl) rfl rfl rfl ?_
      | refine L_q (Q_lenAt 1 rfl rfl) rfl rfl rfl ?_
      | refine L_q (Q_lenAt 2 rfl rfl) rfl rfl rfl ?_
      | refine L_q (Q_lenAt 3 rfl rfl) rfl rfl rfl ?_
      | refine L_q (Q_lenAt 4 rfl rfl) rfl rfl rfl ?_
      | refine L_q (Q_lenAt 5 rfl rfl) rfl rfl rfl ?_
      | refine L_q (Q_lenAt 6 rfl rfl) rfl rfl rfl ?_
      | refine L_q (Q_lenAt 7 rfl rfl) rfl rfl rfl ?_
      | refine L_q (Q_lenAt 8 rfl rfl) rfl rfl rfl ?_
      | refine L_q (Q_lenAt 9 rfl rfl) rfl rfl rfl ?_
    refine L_q (Q_move rfl) rfl rfl rfl ?_
    first
      | refine L_q (Q_lenAt 0 rfl rfl) rfl rfl rfl ?_
      | refine L_q (Q_lenAt 1 rfl rfl) rfl rfl rfl ?_
      | refine L_q (Q_lenAt 2 rfl rfl) rfl rfl rfl ?_
      | refine L_q (Q_lenAt 3 rfl rfl) rfl rfl rfl ?_
      | refine L_q (Q_lenAt 4 rfl rfl) rfl rfl rfl ?_
      | refine L_q (Q_lenAt 5 rfl rfl) rfl rfl rfl ?_
      | refine L_q (Q_lenAt 6 rfl rfl) rfl rfl rfl ?_
      | refine L_q (Q_lenAt 7 rfl rfl) rfl rfl rfl ?_
      | refine L_q (Q_lenAt 8 rfl rfl) rfl rfl rfl ?_
      | refine L_q (Q_lenAt 9 rfl rfl) rfl rfl rfl ?_
    refine L_q (Q_sub rfl rfl (by first | exact IntWalk.i64_in _ (by omega) | exact IntWalk.u8_in _ (by omega) | exact IntWalk.u32_in _ (by omega) | exact IntWalk.u64_in _ (by omega) | rfl)) rfl rfl rfl ?_
    refine L_q (Q_assign rfl) rfl rfl rfl ?_
    refine JL_nil ?_
    repeat first
      | refine J_seq ?_
      | refine seqQ_normal ?_
      | refine J_condT rfl ?_
      | refine J_condF rfl ?_
      | refine J_block ?_
      | refine blockQ_normal ?_
      | refine J_exit ?_
      | refine seqQ_exit ?_
      | refine blockQ_hit ?_
      | refine blockQ_miss rfl ?_
      | refine J_skip ?_
      | refine J_ret ?_
      | refine seqQ_ret ?_
      | refine blockQ_ret ?_
      | refine loopQ_exit ?_
      | refine loopQ_ret ?_
      | refine J_label ?_
      | refine J_scope ?_
      | refine scopeQ_normal ?_
      | refine scopeQ_exit ?_
      | refine scopeQ_ret ?_
    repeat first
      | refine J_seq ?_
      | refine seqQ_normal ?_
      | refine J_condT rfl ?_
      | refine J_condF rfl ?_
      | refine J_block ?_
      | refine blockQ_normal ?_
      | refine J_exit ?_
      | refine seqQ_exit ?_
      | refine blockQ_hit ?_
      | refine blockQ_miss rfl ?_
      | refine J_skip ?_
      | refine J_ret ?_
      | refine seqQ_ret ?_
      | refine blockQ_ret ?_
      | refine loopQ_exit ?_
      | refine loopQ_ret ?_
      | refine J_label ?_
      | refine J_scope ?_
      | refine scopeQ_normal ?_
      | refine scopeQ_exit ?_
      | refine scopeQ_ret ?_
    refine J_region ?_
    refine L_q (Q_move rfl) rfl rfl rfl ?_
    first
      | refine L_q (Q_fa0 rfl) rfl rfl rfl ?_
      | refine L_q (Q_fa rfl rfl) rfl rfl rfl ?_
      | refine L_q (Q_pfa rfl) rfl rfl rfl ?_
    first
      | refine L_s rfl rfl (O_st1 0 rfl rfl rfl rfl rfl ?_)
      | refine L_s rfl rfl (O_st1 1 rfl rfl rfl rfl rfl ?_)
      | refine L_s rfl rfl (O_st1 2 rfl rfl rfl rfl rfl ?_)
      | refine L_s rfl rfl (O_st1 3 rfl rfl rfl rfl rfl ?_)
      | refine L_s rfl rfl (O_st1 4 rfl rfl rfl rfl rfl ?_)
      | refine L_s rfl rfl (O_st1 5 rfl rfl rfl rfl rfl ?_)
      | refine L_s rfl rfl (O_st1 6 rfl rfl rfl rfl rfl ?_)
      | refine L_s rfl rfl (O_st1 7 rfl rfl rfl rfl rfl ?_)
      | refine L_s rfl rfl (O_st1 8 rfl rfl rfl rfl rfl ?_)
      | refine L_s rfl rfl (O_st1 9 rfl rfl rfl rfl rfl ?_)
    refine JL.norm ?_
    refine JL_nil ?_
    repeat first
      | refine J_seq ?_
      | refine seqQ_normal ?_
      | refine J_condT rfl ?_
      | refine J_condF rfl ?_
      | refine J_block ?_
      | refine blockQ_normal ?_
      | refine J_exit ?_
      | refine seqQ_exit ?_
      | refine blockQ_hit ?_
      | refine blockQ_miss rfl ?_
      | refine J_skip ?_
      | refine J_ret ?_
      | refine seqQ_ret ?_
      | refine blockQ_ret ?_
      | refine loopQ_exit ?_
      | refine loopQ_ret ?_
      | refine J_label ?_
      | refine J_scope ?_
      | refine scopeQ_normal ?_
      | refine scopeQ_exit ?_
      | refine scopeQ_ret ?_
    repeat first
      | refine J_seq ?_
      | refine seqQ_normal ?_
      | refine J_condT rfl ?_
      | refine J_condF rfl ?_
      | refine J_block ?_
      | refine blockQ_normal ?_
      | refine J_exit ?_
      | refine seqQ_exit ?_
      | refine blockQ_hit ?_
      | refine blockQ_miss rfl ?_
      | refine J_skip ?_
      | refine J_ret ?_
      | refine seqQ_ret ?_
      | refine blockQ_ret ?_
      | refine loopQ_exit ?_
      | refine loopQ_ret ?_
      | refine J_label ?_
      | refine J_scope ?_
      | refine scopeQ_normal ?_
      | refine scopeQ_exit ?_
      | refine scopeQ_ret ?_
    refine J_region ?_
    first
      | refine L_q (Q_ldA 0 rfl rfl rfl) rfl rfl rfl ?_
      | refine L_q (Q_ldA 1 rfl rfl rfl) rfl rfl rfl ?_
      | refine L_q (Q_ldA 2 rfl rfl rfl) rfl rfl rfl ?_
      | refine L_q (Q_ldA 3 rfl rfl rfl) rfl rfl rfl ?_
      | refine L_q (Q_ldA 4 rfl rfl rfl) rfl rfl rfl ?_
      | refine L_q (Q_ldA 5 rfl rfl rfl) rfl rfl rfl ?_
      | refine L_q (Q_ldA 6 rfl rfl rfl) rfl rfl rfl ?_
      | refine L_q (Q_ldA 7 rfl rfl rfl) rfl rfl rfl ?_
      | refine L_q (Q_ldA 8 rfl rfl rfl) rfl rfl rfl ?_
      | refine L_q (Q_ldA 9 rfl rfl rfl) rfl rfl rfl ?_
    refine L_q (Q_move rfl) rfl rfl rfl ?_
    first
      | refine L_s rfl rfl (O_stW 0 rfl rfl rfl rfl ?_)
      | refine L_s rfl rfl (O_stW 1 rfl rfl rfl rfl ?_)
      | refine L_s rfl rfl (O_stW 2 rfl rfl rfl rfl ?_)
      | refine L_s rfl rfl (O_stW 3 rfl rfl rfl rfl ?_)
      | refine L_s rfl rfl (O_stW 4 rfl rfl rfl rfl ?_)
      | refine L_s rfl rfl (O_stW 5 rfl rfl rfl rfl ?_)
      | refine L_s rfl rfl (O_stW 6 rfl rfl rfl rfl ?_)
      | refine L_s rfl rfl (O_stW 7 rfl rfl rfl rfl ?_)
      | refine L_s rfl rfl (O_stW 8 rfl rfl rfl rfl ?_)
      | refine L_s rfl rfl (O_stW 9 rfl rfl rfl rfl ?_)
    refine JL.norm ?_
    refine L_q (Q_assign rfl) rfl rfl rfl ?_
    refine JL_nil ?_
    repeat first
      | refine J_seq ?_
      | refine seqQ_normal ?_
      | refine J_condT rfl ?_
      | refine J_condF rfl ?_
      | refine J_block ?_
      | refine blockQ_normal ?_
      | refine J_exit ?_
      | refine seqQ_exit ?_
      | refine blockQ_hit ?_
      | refine blockQ_miss rfl ?_
      | refine J_skip ?_
      | refine J_ret ?_
      | refine seqQ_ret ?_
      | refine blockQ_ret ?_
      | refine loopQ_exit ?_
      | refine loopQ_ret ?_
      | refine J_label ?_
      | refine J_scope ?_
      | refine scopeQ_normal ?_
      | refine scopeQ_exit ?_
      | refine scopeQ_ret ?_
    exact retQ_ret _ [slc tO true S (ackL l u)] (.cons (RV_cell 1 rfl rfl rfl rfl) (.cons (RV_tmp rfl) .nil)) ⟨S, rfl, rfl⟩ (Ent.re [0, 4] rfl)
theorem rtdue_ok (E : World) (most : Nat) (X : SV) (l : List Op3) (now : Int) (hl : l.length ≤ 1000) (hok : ∀ x ∈ l, 8 ≤ x.2.2 ∧ x.2.2 ≤ 64) : Does Try.prog E 21 [refT most X, .int .i64 now] [slc tO true X l] fun v L => ∃ X' S : SV, v = .tuple #[refT most X', S.v] ∧ L = [slc tO true X' (dueL l now), slc tZ true S (dueO l now)] := by
  have hmo := rmoment_ok E now
  refine Does.of Try.func21 rfl Try.ntmps21 rfl rfl fun F => ?_
  refine J.norm ?_
  repeat first
    | refine J_seq ?_
    | refine seqQ_normal ?_
    | refine J_condT rfl ?_
    | refine J_condF rfl ?_
    | refine J_block ?_
    | refine blockQ_normal ?_
    | refine J_exit ?_
    | refine seqQ_exit ?_
    | refine blockQ_hit ?_
    | refine blockQ_miss rfl ?_
    | refine J_skip ?_
    | refine J_ret ?_
    | refine seqQ_ret ?_
    | refine blockQ_ret ?_
    | refine loopQ_exit ?_
    | refine loopQ_ret ?_
    | refine J_label ?_
    | refine J_scope ?_
    | refine scopeQ_normal ?_
    | refine scopeQ_exit ?_
    | refine scopeQ_ret ?_
  refine J_region ?_
  refine L_o rfl rfl rfl (O_box rfl fun b2 => ?_)
  refine L_o rfl rfl rfl (O_alloc fun b4 => ?_)
  refine L_q (Q_assign rfl) rfl rfl rfl ?_
  refine JL_nil ?_
  repeat first
    | refine J_seq ?_
    | refine seqQ_normal ?_
    | refine J_condT rfl ?_
    | refine J_condF rfl ?_
    | refine J_block ?_
    | refine blockQ_normal ?_
    | refine J_exit ?_
    | refine seqQ_exit ?_
    | refine blockQ_hit ?_
    | refine blockQ_miss rfl ?_
    | refine J_skip ?_
    | refine J_ret ?_
    | refine seqQ_ret ?_
    | refine blockQ_ret ?_
    | refine loopQ_exit ?_
    | refine loopQ_ret ?_
    | refine J_label ?_
    | refine J_scope ?_
    | refine scopeQ_normal ?_
    | refine scopeQ_exit ?_
    | refine scopeQ_ret ?_
  cases hq : moment now with
  | false =>
    rw [hq] at hmo
    have h1 : dueL l now = l := by unfold dueL; rw [hq]; rfl
    have h2 : dueO l now = [] := by unfold dueO; rw [hq]; rfl
    rw [h1, h2]
    repeat first
      | refine J_seq ?_
      | refine seqQ_normal ?_
      | refine J_condT rfl ?_
      | refine J_condF rfl ?_
      | refine J_block ?_
      | refine blockQ_normal ?_
      | refine J_exit ?_
      | refine seqQ_exit ?_
      | refine blockQ_hit ?_
      | refine blockQ_miss rfl ?_
      | refine J_skip ?_
      | refine J_ret ?_
      | refine seqQ_ret ?_
      | refine blockQ_ret ?_
      | refine loopQ_exit ?_
      | refine loopQ_ret ?_
      | refine J_label ?_
      | refine J_scope ?_
      | refine scopeQ_normal ?_
      | refine scopeQ_exit ?_
      | refine scopeQ_ret ?_
    refine J_region ?_
    refine L_q (Q_move rfl) rfl rfl rfl ?_
    refine L_o rfl rfl rfl (O_call [] [0,1,2,3] hmo rfl rfl ?_)
    rintro _ _ ⟨rfl, rfl⟩
    refine JL.norm ?_
    first
      | refine L_q (Q_notD rfl) rfl rfl rfl ?_
      | refine L_q (Q_not rfl) rfl rfl rfl ?_
    refine JL_nil ?_
    repeat first
      | refine J_seq ?_
      | refine seqQ_normal ?_
      | refine J_condT rfl ?_
      | refine J_condF rfl ?_
      | refine J_block ?_
      | refine blockQ_normal ?_
      | refine J_exit ?_
      | refine seqQ_exit ?_
      | refine blockQ_hit ?_
      | refine blockQ_miss rfl ?_
      | refine J_skip ?_
      | refine J_ret ?_
      | refine seqQ_ret ?_
      | refine blockQ_ret ?_
      | refine loopQ_exit ?_
      | refine loopQ_ret ?_
      | refine J_label ?_
      | refine J_scope ?_
      | refine scopeQ_normal ?_
      | refine scopeQ_exit ?_
      | refine scopeQ_ret ?_
    repeat first
      | refine J_seq ?_
      | refine seqQ_normal ?_
      | refine J_condT rfl ?_
      | refine J_condF rfl ?_
      | refine J_block ?_
      | refine blockQ_normal ?_
      | refine J_exit ?_
      | refine seqQ_exit ?_
      | refine blockQ_hit ?_
      | refine blockQ_miss rfl ?_
      | refine J_skip ?_
      | refine J_ret ?_
      | refine seqQ_ret ?_
      | refine blockQ_ret ?_
      | refine loopQ_exit ?_
      | refine loopQ_ret ?_
      | refine J_label ?_
      | refine J_scope ?_
      | refine scopeQ_normal ?_
      | refine scopeQ_exit ?_
      | refine scopeQ_ret ?_
    refine J_region ?_
    first
      | refine L_q (Q_ldA 0 rfl rfl rfl) rfl rfl rfl ?_
      | refine L_q (Q_ldA 1 rfl rfl rfl) rfl rfl rfl ?_
      | refine L_q (Q_ldA 2 rfl rfl rfl) rfl rfl rfl ?_
      | refine L_q (Q_ldA 3 rfl rfl rfl) rfl rfl rfl ?_
      | refine L_q (Q_ldA 4 rfl rfl rfl) rfl rfl rfl ?_
      | refine L_q (Q_ldA 5 rfl rfl rfl) rfl rfl rfl ?_
      | refine L_q (Q_ldA 6 rfl rfl rfl) rfl rfl rfl ?_
      | refine L_q (Q_ldA 7 rfl rfl rfl) rfl rfl rfl ?_
      | refine L_q (Q_ldA 8 rfl rfl rfl) rfl rfl rfl ?_
      | refine L_q (Q_ldA 9 rfl rfl rfl) rfl rfl rfl ?_
    first
      | refine L_s rfl rfl (O_stW 0 rfl rfl rfl rfl ?_)
      | refine L_s rfl rfl (O_stW 1 rfl rfl rfl rfl ?_)
      | refine L_s rfl rfl (O_stW 2 rfl rfl rfl rfl ?_)
      | refine L_s rfl rfl (O_stW 3 rfl rfl rfl rfl ?_)
      | refine L_s rfl rfl (O_stW 4 rfl rfl rfl rfl ?_)
      | refine L_s rfl rfl (O_stW 5 rfl rfl rfl rfl ?_)
      | refine L_s rfl rfl (O_stW 6 rfl rfl rfl rfl ?_)
      | refine L_s rfl rfl (O_stW 7 rfl rfl rfl rfl ?_)
      | refine L_s rfl rfl (O_stW 8 rfl rfl rfl rfl ?_)
      | refine L_s rfl rfl (O_stW 9 rfl rfl rfl rfl ?_)
    refine JL.norm ?_
    refine L_q (Q_assign rfl) rfl rfl rfl ?_
    refine JL_nil ?_
    repeat first
      | refine J_seq ?_
      | refine seqQ_normal ?_
      | refine J_condT rfl ?_
      | refine J_condF rfl ?_
      | refine J_block ?_
      | refine blockQ_normal ?_
      | refine J_exit ?_
      | refine seqQ_exit ?_
      | refine blockQ_hit ?_
      | refine blockQ_miss rfl ?_
      | refine J_skip ?_
      | refine J_ret ?_
      | refine seqQ_ret ?_
      | refine blockQ_ret ?_
      | refine loopQ_exit ?_
      | refine loopQ_ret ?_
      | refine J_label ?_
      | refine J_scope ?_
      | refine scopeQ_normal ?_
      | refine scopeQ_exit ?_
      | refine scopeQ_ret ?_
    refine retQ_ret _ [slc tO true X l, slc tZ true SV.nil []] (.cons (RV_cell 0 rfl rfl rfl rfl) (.cons (RV_tmp rfl) .nil)) ⟨X, SV.nil, rfl, rfl⟩ ?_
    exact (Ent.mk fun _ _ h => (h.lay_nil tZ true : Sat _ _ (slc tZ true SV.nil [] :: _))).trans (Ent.re [3, 0, 4] rfl)
  | true =>
  rw [hq] at hmo
  have h1 : dueL l now = l.map (dueF now) := by unfold dueL; rw [hq]; rfl
  have h2 : dueO l now = (l.filter fun x : Op3 => decide (x.2.1 ≤ now)).map fun x : Op3 => x.1 := by unfold dueO; rw [hq]; rfl
  have hmm : 0 ≤ now ∧ now ≤ 1099511627776 := by simpa [moment] using hq
  rw [h1, h2]
  repeat first
    | refine J_seq ?_
    | refine seqQ_normal ?_
    | refine J_condT rfl ?_
    | refine J_condF rfl ?_
    | refine J_block ?_
    | refine blockQ_normal ?_
    | refine J_exit ?_
    | refine seqQ_exit ?_
    | refine blockQ_hit ?_
    | refine blockQ_miss rfl ?_
    | refine J_skip ?_
    | refine J_ret ?_
    | refine seqQ_ret ?_
    | refine blockQ_ret ?_
    | refine loopQ_exit ?_
    | refine loopQ_ret ?_
    | refine J_label ?_
    | refine J_scope ?_
    | refine scopeQ_normal ?_
    | refine scopeQ_exit ?_
    | refine scopeQ_ret ?_
  refine J_region ?_
  refine L_q (Q_move rfl) rfl rfl rfl ?_
  refine L_o rfl rfl rfl (O_call [] [0,1,2,3] hmo rfl rfl ?_)
  rintro _ _ ⟨rfl, rfl⟩
  refine JL.norm ?_
  first
    | refine L_q (Q_notD rfl) rfl rfl rfl ?_
    | refine L_q (Q_not rfl) rfl rfl rfl ?_
  refine JL_nil ?_
  repeat first
    | refine J_seq ?_
    | refine seqQ_normal ?_
    | refine J_condT rfl ?_
    | refine J_condF rfl ?_
    | refine J_block ?_
    | refine blockQ_normal ?_
    | refine J_exit ?_
    | refine seqQ_exit ?_
    | refine blockQ_hit ?_
    | refine blockQ_miss rfl ?_
    | refine J_skip ?_
    | refine J_ret ?_
    | refine seqQ_ret ?_
    | refine blockQ_ret ?_
    | refine loopQ_exit ?_
    | refine loopQ_ret ?_
    | refine J_label ?_
    | refine J_scope ?_
    | refine scopeQ_normal ?_
    | refine scopeQ_exit ?_
    | refine scopeQ_ret ?_
  repeat first
    | refine J_seq ?_
    | refine seqQ_normal ?_
    | refine J_condT rfl ?_
    | refine J_condF rfl ?_
    | refine J_block ?_
    | refine blockQ_normal ?_
    | refine J_exit ?_
    | refine seqQ_exit ?_
    | refine blockQ_hit ?_
    | refine blockQ_miss rfl ?_
    | refine J_skip ?_
    | refine J_ret ?_
    | refine seqQ_ret ?_
    | refine blockQ_ret ?_
    | refine loopQ_exit ?_
    | refine loopQ_ret ?_
    | refine J_label ?_
    | refine J_scope ?_
    | refine scopeQ_normal ?_
    | refine scopeQ_exit ?_
    | refine scopeQ_ret ?_
  refine J_region ?_
  refine L_q (Q_assign rfl) rfl rfl rfl ?_
  refine JL_nil ?_
  repeat first
    | refine J_seq ?_
    | refine seqQ_normal ?_
    | refine J_condT rfl ?_
    | refine J_condF rfl ?_
    | refine J_block ?_
    | refine blockQ_normal ?_
    | refine J_exit ?_
    | refine seqQ_exit ?_
    | refine blockQ_hit ?_
    | refine blockQ_miss rfl ?_
    | refine J_skip ?_
    | refine J_ret ?_
    | refine seqQ_ret ?_
    | refine blockQ_ret ?_
    | refine loopQ_exit ?_
    | refine loopQ_ret ?_
    | refine J_label ?_
    | refine J_scope ?_
    | refine scopeQ_normal ?_
    | refine scopeQ_exit ?_
    | refine scopeQ_ret ?_
  repeat first
    | refine J_seq ?_
    | refine seqQ_normal ?_
    | refine J_condT rfl ?_
    | refine J_condF rfl ?_
    | refine J_block ?_
    | refine blockQ_normal ?_
    | refine J_exit ?_
    | refine seqQ_exit ?_
    | refine blockQ_hit ?_
    | refine blockQ_miss rfl ?_
    | refine J_skip ?_
    | refine J_ret ?_
    | refine seqQ_ret ?_
    | refine blockQ_ret ?_
    | refine loopQ_exit ?_
    | refine loopQ_ret ?_
    | refine J_label ?_
    | refine J_scope ?_
    | refine scopeQ_normal ?_
    | refine scopeQ_exit ?_
    | refine scopeQ_ret ?_
  refine J_region ?_
  refine L_q (Q_assign rfl) rfl rfl rfl ?_
  refine JL_nil ?_
  repeat first
    | refine J_seq ?_
    | refine seqQ_normal ?_
    | refine J_condT rfl ?_
    | refine J_condF rfl ?_
    | refine J_block ?_
    | refine blockQ_normal ?_
    | refine J_exit ?_
    | refine seqQ_exit ?_
    | refine blockQ_hit ?_
    | refine blockQ_miss rfl ?_
    | refine J_skip ?_
    | refine J_ret ?_
    | refine seqQ_ret ?_
    | refine blockQ_ret ?_
    | refine loopQ_exit ?_
    | refine loopQ_ret ?_
    | refine J_label ?_
    | refine J_scope ?_
    | refine scopeQ_normal ?_
    | refine scopeQ_exit ?_
    | refine scopeQ_ret ?_
  repeat first
    | refine J_seq ?_
    | refine seqQ_normal ?_
    | refine J_condT rfl ?_
    | refine J_condF rfl ?_
    | refine J_block ?_
    | refine blockQ_normal ?_
    | refine J_exit ?_
    | refine seqQ_exit ?_
    | refine blockQ_hit ?_
    | refine blockQ_miss rfl ?_
    | refine J_skip ?_
    | refine J_ret ?_
    | refine seqQ_ret ?_
    | refine blockQ_ret ?_
    | refine loopQ_exit ?_
    | refine loopQ_ret ?_
    | refine J_label ?_
    | refine J_scope ?_
    | refine scopeQ_normal ?_
    | refine scopeQ_exit ?_
    | refine scopeQ_ret ?_
  refine J_region ?_
  refine L_q (Q_assign rfl) rfl rfl rfl ?_
  refine JL_nil ?_
  repeat first
    | refine J_seq ?_
    | refine seqQ_normal ?_
    | refine J_condT rfl ?_
    | refine J_condF rfl ?_
    | refine J_block ?_
    | refine blockQ_normal ?_
    | refine J_exit ?_
    | refine seqQ_exit ?_
    | refine blockQ_hit ?_
    | refine blockQ_miss rfl ?_
    | refine J_skip ?_
    | refine J_ret ?_
    | refine seqQ_ret ?_
    | refine blockQ_ret ?_
    | refine loopQ_exit ?_
    | refine loopQ_ret ?_
    | refine J_label ?_
    | refine J_scope ?_
    | refine scopeQ_normal ?_
    | refine scopeQ_exit ?_
    | refine scopeQ_ret ?_
  refine J.ent (Ent.mk fun _ _ h => ((h.lay_nil tO true).lay_nil tZ true : Sat _ _ (slc tZ true SV.nil [] :: slc tO true SV.nil [] :: _))) ?_
  refine J_loop (fun i : Nat × SV × SV => i.1 ≤ l.length) (fun i => [(1, .int .i64 now), (2, .pointer (some ⟨b2, 0, none⟩)), (4, .pointer (some ⟨b4, 0, none⟩)), (6, i.2.1.v), (7, i.2.2.v), (8, .int .i64 (i.1 : Int))])
    (fun i => [slc tZ true i.2.2 (((l.take i.1).filter fun x : Op3 => decide (x.2.1 ≤ now)).map fun x : Op3 => x.1), slc tO true i.2.1 ((l.take i.1).map (dueF now)), cel b4 [.int .i64 0, .slice none 0 0] 41, cel b2 [.int .i64 (most : Int), X.v] 41, slc tO true X l, F]) (fun i => l.length - i.1) (0, SV.nil, SV.nil) (by simp) ⟨rfl, rfl, rfl, rfl, rfl, rfl, trivial⟩ (Ent.refl _) ?_
  rintro ⟨k, S, O⟩ hk
  dsimp only at hk ⊢
  repeat first
    | refine J_seq ?_
    | refine seqQ_normal ?_
    | refine J_condT rfl ?_
    | refine J_condF rfl ?_
    | refine J_block ?_
    | refine blockQ_normal ?_
    | refine J_exit ?_
    | refine seqQ_exit ?_
    | refine blockQ_hit ?_
    | refine blockQ_miss rfl ?_
    | refine J_skip ?_
    | refine J_ret ?_
    | refine seqQ_ret ?_
    | refine blockQ_ret ?_
    | refine loopQ_exit ?_
    | refine loopQ_ret ?_
    | refine J_label ?_
    | refine J_scope ?_
    | refine scopeQ_normal ?_
    | refine scopeQ_exit ?_
    | refine scopeQ_ret ?_
  refine J_region ?_
  refine L_q (Q_move rfl) rfl rfl rfl ?_
  first
    | refine L_q (Q_fa0 rfl) rfl rfl rfl ?_
    | refine L_q (Q_fa rfl rfl) rfl rfl rfl ?_
    | refine L_q (Q_pfa rfl) rfl rfl rfl ?_
  first
    | refine L_q (Q_ld 0 rfl rfl rfl rfl) rfl rfl rfl ?_
    | refine L_q (Q_ld 1 rfl rfl rfl rfl) rfl rfl rfl ?_
    | refine L_q (Q_ld 2 rfl rfl rfl rfl) rfl rfl rfl ?_
    | refine L_q (Q_ld 3 rfl rfl rfl rfl) rfl rfl rfl ?_
    | refine L_q (Q_ld 4 rfl rfl rfl rfl) rfl rfl rfl ?_
    | refine L_q (Q_ld 5 rfl rfl rfl rfl) rfl rfl rfl ?_
    | refine L_q (Q_ld 6 rfl rfl rfl rfl) rfl rfl rfl ?_
    | refine L_q (Q_ld 7 rfl rfl rfl rfl) rfl rfl rfl ?_
    | refine L_q (Q_ld 8 rfl rfl rfl rfl) rfl rfl rfl ?_
    | refine L_q (Q_ld 9 rfl rfl rfl rfl) rfl rfl rfl ?_
  first
    | refine L_q (Q_lenAt 0 rfl rfl) rfl rfl rfl ?_
    | refine L_q (Q_lenAt 1 rfl rfl) rfl rfl rfl ?_
    | refine L_q (Q_lenAt 2 rfl rfl) rfl rfl rfl ?_
    | refine L_q (Q_lenAt 3 rfl rfl) rfl rfl rfl ?_
    | refine L_q (Q_lenAt 4 rfl rfl) rfl rfl rfl ?_
    | refine L_q (Q_lenAt 5 rfl rfl) rfl rfl rfl ?_
    | refine L_q (Q_lenAt 6 rfl rfl) rfl rfl rfl ?_
    | refine L_q (Q_lenAt 7 rfl rfl) rfl rfl rfl ?_
    | refine L_q (Q_lenAt 8 rfl rfl) rfl rfl rfl ?_
    | refine L_q (Q_lenAt 9 rfl rfl) rfl rfl rfl ?_
  refine L_q (Q_lss rfl rfl) rfl rfl rfl ?_
  refine JL_nil ?_
  repeat first
    | refine J_seq ?_
    | refine seqQ_normal ?_
    | refine J_condT rfl ?_
    | refine J_condF rfl ?_
    | refine J_block ?_
    | refine blockQ_normal ?_
    | refine J_exit ?_
    | refine seqQ_exit ?_
    | refine blockQ_hit ?_
    | refine blockQ_miss rfl ?_
    | refine J_skip ?_
    | refine J_ret ?_
    | refine seqQ_ret ?_
    | refine blockQ_ret ?_
    | refine loopQ_exit ?_
    | refine loopQ_ret ?_
    | refine J_label ?_
    | refine J_scope ?_
    | refine scopeQ_normal ?_
    | refine scopeQ_exit ?_
    | refine scopeQ_ret ?_
  refine J_condD rfl (fun h => ?_) (fun h => ?_)
  · have hlt : k < l.length := by omega
    have hxo := hok l[k] (List.getElem_mem hlt)
    have hs : (l.take (k + 1)).map (dueF now) = (l.take k).map (dueF now) ++ [dueF now l[k]] := by rw [List.take_succ_eq_append_getElem hlt, List.map_append]; rfl
    have hsl : ((l.take k).map (dueF now)).length ≤ 1000 := by simp; omega
    have hfl : (((l.take k).filter fun x : Op3 => decide (x.2.1 ≤ now)).map fun x : Op3 => x.1).length ≤ 1000 := by
      rw [List.length_map]
      have := List.length_filter_le (fun x : Op3 => decide (x.2.1 ≤ now)) (l.take k)
      rw [List.length_take] at this
      omega
    repeat first
      | refine J_seq ?_
      | refine seqQ_normal ?_
      | refine J_condT rfl ?_
      | refine J_condF rfl ?_
      | refine J_block ?_
      | refine blockQ_normal ?_
      | refine J_exit ?_
      | refine seqQ_exit ?_
      | refine blockQ_hit ?_
      | refine blockQ_miss rfl ?_
      | refine J_skip ?_
      | refine J_ret ?_
      | refine seqQ_ret ?_
      | refine blockQ_ret ?_
      | refine loopQ_exit ?_
      | refine loopQ_ret ?_
      | refine J_label ?_
      | refine J_scope ?_
      | refine scopeQ_normal ?_
      | refine scopeQ_exit ?_
      | refine scopeQ_ret ?_
    refine J_region ?_
    first
      | refine L_q (Q_fa0 rfl) rfl rfl rfl ?_
      | refine L_q (Q_fa rfl rfl) rfl rfl rfl ?_
      | refine L_q (Q_pfa rfl) rfl rfl rfl ?_
    first
      | refine L_q (Q_ld 0 rfl rfl rfl rfl) rfl rfl rfl ?_
      | refine L_q (Q_ld 1 rfl rfl rfl rfl) rfl rfl rfl ?_
      | refine L_q (Q_ld 2 rfl rfl rfl rfl) rfl rfl rfl ?_
      | refine L_q (Q_ld 3 rfl rfl rfl rfl) rfl rfl rfl ?_
      | refine L_q (Q_ld 4 rfl rfl rfl rfl) rfl rfl rfl ?_
      | refine L_q (Q_ld 5 rfl rfl rfl rfl) rfl rfl rfl ?_
      | refine L_q (Q_ld 6 rfl rfl rfl rfl) rfl rfl rfl ?_
      | refine L_q (Q_ld 7 rfl rfl rfl rfl) rfl rfl rfl ?_
      | refine L_q (Q_ld 8 rfl rfl rfl rfl) rfl rfl rfl ?_
      | refine L_q (Q_ld 9 rfl rfl rfl rfl) rfl rfl rfl ?_
    refine L_q (Q_move rfl) rfl rfl rfl ?_
    refine L_q (Q_ixAt 4 k rfl rfl rfl rfl hlt rfl) rfl rfl rfl ?_
    refine L_q (Q_ldEAAt 4 k 0 (vs := [.int .i64 l[k].1, .int .i64 l[k].2.1, .int .i64 l[k].2.2]) rfl rfl rfl rfl hlt (by decide) rfl) rfl rfl rfl ?_
    refine L_o rfl rfl rfl (O_alloc fun b9 => ?_)
    first
      | refine L_s rfl rfl (O_stW 0 rfl rfl rfl rfl ?_)
      | refine L_s rfl rfl (O_stW 1 rfl rfl rfl rfl ?_)
      | refine L_s rfl rfl (O_stW 2 rfl rfl rfl rfl ?_)
      | refine L_s rfl rfl (O_stW 3 rfl rfl rfl rfl ?_)
      | refine L_s rfl rfl (O_stW 4 rfl rfl rfl rfl ?_)
      | refine L_s rfl rfl (O_stW 5 rfl rfl rfl rfl ?_)
      | refine L_s rfl rfl (O_stW 6 rfl rfl rfl rfl ?_)
      | refine L_s rfl rfl (O_stW 7 rfl rfl rfl rfl ?_)
      | refine L_s rfl rfl (O_stW 8 rfl rfl rfl rfl ?_)
      | refine L_s rfl rfl (O_stW 9 rfl rfl rfl rfl ?_)
    refine JL.norm ?_
    refine JL_nil ?_
    repeat first
      | refine J_seq ?_
      | refine seqQ_normal ?_
      | refine J_condT rfl ?_
      | refine J_condF rfl ?_
      | refine J_block ?_
      | refine blockQ_normal ?_
      | refine J_exit ?_
      | refine seqQ_exit ?_
      | refine blockQ_hit ?_
      | refine blockQ_miss rfl ?_
      | refine J_skip ?_
      | refine J_ret ?_
      | refine seqQ_ret ?_
      | refine blockQ_ret ?_
      | refine loopQ_exit ?_
      | refine loopQ_ret ?_
      | refine J_label ?_
      | refine J_scope ?_
      | refine scopeQ_normal ?_
      | refine scopeQ_exit ?_
      | refine scopeQ_ret ?_
    by_cases hd : l[k].2.1 ≤ now
    · have hfx : dueF now l[k] = (l[k].1, (now + l[k].2.2, min (2 * l[k].2.2) 64)) := by unfold dueF; rw [if_pos hd]
      have ho : ((l.take (k + 1)).filter fun x : Op3 => decide (x.2.1 ≤ now)).map (fun x : Op3 => x.1) = ((l.take k).filter fun x : Op3 => decide (x.2.1 ≤ now)).map (fun x : Op3 => x.1) ++ [l[k].1] := by
        rw [List.take_succ_eq_append_getElem hlt, List.filter_append, List.map_append]; simp [hd]
      repeat first
        | refine J_seq ?_
        | refine seqQ_normal ?_
        | refine J_condT rfl ?_
        | refine J_condF rfl ?_
        | refine J_block ?_
        | refine blockQ_normal ?_
        | refine J_exit ?_
        | refine seqQ_exit ?_
        | refine blockQ_hit ?_
        | refine blockQ_miss rfl ?_
        | refine J_skip ?_
        | refine J_ret ?_
        | refine seqQ_ret ?_
        | refine blockQ_ret ?_
        | refine loopQ_exit ?_
        | refine loopQ_ret ?_
        | refine J_label ?_
        | refine J_scope ?_
        | refine scopeQ_normal ?_
        | refine scopeQ_exit ?_
        | refine scopeQ_ret ?_
      refine J_region ?_
      first
        | refine L_q (Q_fa0 rfl) rfl rfl rfl ?_
        | refine L_q (Q_fa rfl rfl) rfl rfl rfl ?_
        | refine L_q (Q_pfa rfl) rfl rfl rfl ?_
      first
        | refine L_q (Q_ld 0 rfl rfl rfl rfl) rfl rfl rfl ?_
        | refine L_q (Q_ld 1 rfl rfl rfl rfl) rfl rfl rfl ?_
        | refine L_q (Q_ld 2 rfl rfl rfl rfl) rfl rfl rfl ?_
        | refine L_q (Q_ld 3 rfl rfl rfl rfl) rfl rfl rfl ?_
        | refine L_q (Q_ld 4 rfl rfl rfl rfl) rfl rfl rfl ?_
        | refine L_q (Q_ld 5 rfl rfl rfl rfl) rfl rfl rfl ?_
        | refine L_q (Q_ld 6 rfl rfl rfl rfl) rfl rfl rfl ?_
        | refine L_q (Q_ld 7 rfl rfl rfl rfl) rfl rfl rfl ?_
        | refine L_q (Q_ld 8 rfl rfl rfl rfl) rfl rfl rfl ?_
        | refine L_q (Q_ld 9 rfl rfl rfl rfl) rfl rfl rfl ?_
      refine L_q (Q_move rfl) rfl rfl rfl ?_
      refine L_q ((Q_leq rfl rfl).as (v' := .bool true) (congrArg Value.bool (decide_eq_true hd))) rfl rfl rfl ?_
      refine JL_nil ?_
      repeat first
        | refine J_seq ?_
        | refine seqQ_normal ?_
        | refine J_condT rfl ?_
        | refine J_condF rfl ?_
        | refine J_block ?_
        | refine blockQ_normal ?_
        | refine J_exit ?_
        | refine seqQ_exit ?_
        | refine blockQ_hit ?_
        | refine blockQ_miss rfl ?_
        | refine J_skip ?_
        | refine J_ret ?_
        | refine seqQ_ret ?_
        | refine blockQ_ret ?_
        | refine loopQ_exit ?_
        | refine loopQ_ret ?_
        | refine J_label ?_
        | refine J_scope ?_
        | refine scopeQ_normal ?_
        | refine scopeQ_exit ?_
        | refine scopeQ_ret ?_
      repeat first
        | refine J_seq ?_
        | refine seqQ_normal ?_
        | refine J_condT rfl ?_
        | refine J_condF rfl ?_
        | refine J_block ?_
        | refine blockQ_normal ?_
        | refine J_exit ?_
        | refine seqQ_exit ?_
        | refine blockQ_hit ?_
        | refine blockQ_miss rfl ?_
        | refine J_skip ?_
        | refine J_ret ?_
        | refine seqQ_ret ?_
        | refine blockQ_ret ?_
        | refine loopQ_exit ?_
        | refine loopQ_ret ?_
        | refine J_label ?_
        | refine J_scope ?_
        | refine scopeQ_normal ?_
        | refine scopeQ_exit ?_
        | refine scopeQ_ret ?_
      refine J_region ?_
      refine L_q (Q_move rfl) rfl rfl rfl ?_
      first
        | refine L_q (Q_fa0 rfl) rfl rfl rfl ?_
        | refine L_q (Q_fa rfl rfl) rfl rfl rfl ?_
        | refine L_q (Q_pfa rfl) rfl rfl rfl ?_
      first
        | refine L_q (Q_ld 0 rfl rfl rfl rfl) rfl rfl rfl ?_
        | refine L_q (Q_ld 1 rfl rfl rfl rfl) rfl rfl rfl ?_
        | refine L_q (Q_ld 2 rfl rfl rfl rfl) rfl rfl rfl ?_
        | refine L_q (Q_ld 3 rfl rfl rfl rfl) rfl rfl rfl ?_
        | refine L_q (Q_ld 4 rfl rfl rfl rfl) rfl rfl rfl ?_
        | refine L_q (Q_ld 5 rfl rfl rfl rfl) rfl rfl rfl ?_
        | refine L_q (Q_ld 6 rfl rfl rfl rfl) rfl rfl rfl ?_
        | refine L_q (Q_ld 7 rfl rfl rfl rfl) rfl rfl rfl ?_
        | refine L_q (Q_ld 8 rfl rfl rfl rfl) rfl rfl rfl ?_
        | refine L_q (Q_ld 9 rfl rfl rfl rfl) rfl rfl rfl ?_
      refine L_o rfl rfl rfl (O_litP (τ := tZ) (m := 1) (sz := 1) [l[k].1] rfl rfl rfl rfl rfl rfl (by decide) (fun S1 => ?_))
      refine JL.norm ?_
      refine L_o rfl rfl rfl (O_app (τ := tZ) 2 rfl (fun w h => h.rd 0 rfl) rfl rfl rfl rfl (by simp only [List.length_singleton]; omega) (by decide) (fun O2 => ?_))
      refine JL.norm ?_
      refine L_q (Q_assign rfl) rfl rfl rfl ?_
      refine JL_nil ?_
      repeat first
        | refine J_seq ?_
        | refine seqQ_normal ?_
        | refine J_condT rfl ?_
        | refine J_condF rfl ?_
        | refine J_block ?_
        | refine blockQ_normal ?_
        | refine J_exit ?_
        | refine seqQ_exit ?_
        | refine blockQ_hit ?_
        | refine blockQ_miss rfl ?_
        | refine J_skip ?_
        | refine J_ret ?_
        | refine seqQ_ret ?_
        | refine blockQ_ret ?_
        | refine loopQ_exit ?_
        | refine loopQ_ret ?_
        | refine J_label ?_
        | refine J_scope ?_
        | refine scopeQ_normal ?_
        | refine scopeQ_exit ?_
        | refine scopeQ_ret ?_
      repeat first
        | refine J_seq ?_
        | refine seqQ_normal ?_
        | refine J_condT rfl ?_
        | refine J_condF rfl ?_
        | refine J_block ?_
        | refine blockQ_normal ?_
        | refine J_exit ?_
        | refine seqQ_exit ?_
        | refine blockQ_hit ?_
        | refine blockQ_miss rfl ?_
        | refine J_skip ?_
        | refine J_ret ?_
        | refine seqQ_ret ?_
        | refine blockQ_ret ?_
        | refine loopQ_exit ?_
        | refine loopQ_ret ?_
        | refine J_label ?_
        | refine J_scope ?_
        | refine scopeQ_normal ?_
        | refine scopeQ_exit ?_
        | refine scopeQ_ret ?_
      refine J_region ?_
      refine L_q (Q_move rfl) rfl rfl rfl ?_
      first
        | refine L_q (Q_fa0 rfl) rfl rfl rfl ?_
        | refine L_q (Q_fa rfl rfl) rfl rfl rfl ?_
        | refine L_q (Q_pfa rfl) rfl rfl rfl ?_
      first
        | refine L_q (Q_ld 0 rfl rfl rfl rfl) rfl rfl rfl ?_
        | refine L_q (Q_ld 1 rfl rfl rfl rfl) rfl rfl rfl ?_
        | refine L_q (Q_ld 2 rfl rfl rfl rfl) rfl rfl rfl ?_
        | refine L_q (Q_ld 3 rfl rfl rfl rfl) rfl rfl rfl ?_
        | refine L_q (Q_ld 4 rfl rfl rfl rfl) rfl rfl rfl ?_
        | refine L_q (Q_ld 5 rfl rfl rfl rfl) rfl rfl rfl ?_
        | refine L_q (Q_ld 6 rfl rfl rfl rfl) rfl rfl rfl ?_
        | refine L_q (Q_ld 7 rfl rfl rfl rfl) rfl rfl rfl ?_
        | refine L_q (Q_ld 8 rfl rfl rfl rfl) rfl rfl rfl ?_
        | refine L_q (Q_ld 9 rfl rfl rfl rfl) rfl rfl rfl ?_
      refine L_q (Q_add rfl rfl (by first | exact IntWalk.i64_in _ (by omega) | exact IntWalk.u8_in _ (by omega) | exact IntWalk.u32_in _ (by omega) | exact IntWalk.u64_in _ (by omega) | rfl)) rfl rfl rfl ?_
      first
        | refine L_q (Q_fa0 rfl) rfl rfl rfl ?_
        | refine L_q (Q_fa rfl rfl) rfl rfl rfl ?_
        | refine L_q (Q_pfa rfl) rfl rfl rfl ?_
      first
        | refine L_s rfl rfl (O_st1 0 rfl rfl rfl rfl rfl ?_)
        | refine L_s rfl rfl (O_st1 1 rfl rfl rfl rfl rfl ?_)
        | refine L_s rfl rfl (O_st1 2 rfl rfl rfl rfl rfl ?_)
        | refine L_s rfl rfl (O_st1 3 rfl rfl rfl rfl rfl ?_)
        | refine L_s rfl rfl (O_st1 4 rfl rfl rfl rfl rfl ?_)
        | refine L_s rfl rfl (O_st1 5 rfl rfl rfl rfl rfl ?_)
        | refine L_s rfl rfl (O_st1 6 rfl rfl rfl rfl rfl ?_)
        | refine L_s rfl rfl (O_st1 7 rfl rfl rfl rfl rfl ?_)
        | refine L_s rfl rfl (O_st1 8 rfl rfl rfl rfl rfl ?_)
        | refine L_s rfl rfl (O_st1 9 rfl rfl rfl rfl rfl ?_)
      refine JL.norm ?_
      refine JL_nil ?_
      repeat first
        | refine J_seq ?_
        | refine seqQ_normal ?_
        | refine J_condT rfl ?_
        | refine J_condF rfl ?_
        | refine J_block ?_
        | refine blockQ_normal ?_
        | refine J_exit ?_
        | refine seqQ_exit ?_
        | refine blockQ_hit ?_
        | refine blockQ_miss rfl ?_
        | refine J_skip ?_
        | refine J_ret ?_
        | refine seqQ_ret ?_
        | refine blockQ_ret ?_
        | refine loopQ_exit ?_
        | refine loopQ_ret ?_
        | refine J_label ?_
        | refine J_scope ?_
        | refine scopeQ_normal ?_
        | refine scopeQ_exit ?_
        | refine scopeQ_ret ?_
      repeat first
        | refine J_seq ?_
        | refine seqQ_normal ?_
        | refine J_condT rfl ?_
        | refine J_condF rfl ?_
        | refine J_block ?_
        | refine blockQ_normal ?_
        | refine J_exit ?_
        | refine seqQ_exit ?_
        | refine blockQ_hit ?_
        | refine blockQ_miss rfl ?_
        | refine J_skip ?_
        | refine J_ret ?_
        | refine seqQ_ret ?_
        | refine blockQ_ret ?_
        | refine loopQ_exit ?_
        | refine loopQ_ret ?_
        | refine J_label ?_
        | refine J_scope ?_
        | refine scopeQ_normal ?_
        | refine scopeQ_exit ?_
        | refine scopeQ_ret ?_
      refine J_region ?_
      first
        | refine L_q (Q_fa0 rfl) rfl rfl rfl ?_
        | refine L_q (Q_fa rfl rfl) rfl rfl rfl ?_
        | refine L_q (Q_pfa rfl) rfl rfl rfl ?_
      first
        | refine L_q (Q_ld 0 rfl rfl rfl rfl) rfl rfl rfl ?_
        | refine L_q (Q_ld 1 rfl rfl rfl rfl) rfl rfl rfl ?_
        | refine L_q (Q_ld 2 rfl rfl rfl rfl) rfl rfl rfl ?_
        | refine L_q (Q_ld 3 rfl rfl rfl rfl) rfl rfl rfl ?_
        | refine L_q (Q_ld 4 rfl rfl rfl rfl) rfl rfl rfl ?_
        | refine L_q (Q_ld 5 rfl rfl rfl rfl) rfl rfl rfl ?_
        | refine L_q (Q_ld 6 rfl rfl rfl rfl) rfl rfl rfl ?_
        | refine L_q (Q_ld 7 rfl rfl rfl rfl) rfl rfl rfl ?_
        | refine L_q (Q_ld 8 rfl rfl rfl rfl) rfl rfl rfl ?_
        | refine L_q (Q_ld 9 rfl rfl rfl rfl) rfl rfl rfl ?_
      refine L_q (Q_mul rfl rfl (by first | exact IntWalk.i64_in _ (by omega) | exact IntWalk.u8_in _ (by omega) | exact IntWalk.u32_in _ (by omega) | exact IntWalk.u64_in _ (by omega) | rfl)) rfl rfl rfl ?_
      refine L_q (Q_min2 rfl rfl) rfl rfl rfl ?_
      first
        | refine L_q (Q_fa0 rfl) rfl rfl rfl ?_
        | refine L_q (Q_fa rfl rfl) rfl rfl rfl ?_
        | refine L_q (Q_pfa rfl) rfl rfl rfl ?_
      first
        | refine L_s rfl rfl (O_st1 0 rfl rfl rfl rfl rfl ?_)
        | refine L_s rfl rfl (O_st1 1 rfl rfl rfl rfl rfl ?_)
        | refine L_s rfl rfl (O_st1 2 rfl rfl rfl rfl rfl ?_)
        | refine L_s rfl rfl (O_st1 3 rfl rfl rfl rfl rfl ?_)
        | refine L_s rfl rfl (O_st1 4 rfl rfl rfl rfl rfl ?_)
        | refine L_s rfl rfl (O_st1 5 rfl rfl rfl rfl rfl ?_)
        | refine L_s rfl rfl (O_st1 6 rfl rfl rfl rfl rfl ?_)
        | refine L_s rfl rfl (O_st1 7 rfl rfl rfl rfl rfl ?_)
        | refine L_s rfl rfl (O_st1 8 rfl rfl rfl rfl rfl ?_)
        | refine L_s rfl rfl (O_st1 9 rfl rfl rfl rfl rfl ?_)
      refine JL.norm ?_
      refine JL_nil ?_
      repeat first
        | refine J_seq ?_
        | refine seqQ_normal ?_
        | refine J_condT rfl ?_
        | refine J_condF rfl ?_
        | refine J_block ?_
        | refine blockQ_normal ?_
        | refine J_exit ?_
        | refine seqQ_exit ?_
        | refine blockQ_hit ?_
        | refine blockQ_miss rfl ?_
        | refine J_skip ?_
        | refine J_ret ?_
        | refine seqQ_ret ?_
        | refine blockQ_ret ?_
        | refine loopQ_exit ?_
        | refine loopQ_ret ?_
        | refine J_label ?_
        | refine J_scope ?_
        | refine scopeQ_normal ?_
        | refine scopeQ_exit ?_
        | refine scopeQ_ret ?_
      repeat first
        | refine J_seq ?_
        | refine seqQ_normal ?_
        | refine J_condT rfl ?_
        | refine J_condF rfl ?_
        | refine J_block ?_
        | refine blockQ_normal ?_
        | refine J_exit ?_
        | refine seqQ_exit ?_
        | refine blockQ_hit ?_
        | refine blockQ_miss rfl ?_
        | refine J_skip ?_
        | refine J_ret ?_
        | refine seqQ_ret ?_
        | refine blockQ_ret ?_
        | refine loopQ_exit ?_
        | refine loopQ_ret ?_
        | refine J_label ?_
        | refine J_scope ?_
        | refine scopeQ_normal ?_
        | refine scopeQ_exit ?_
        | refine scopeQ_ret ?_
      refine J_region ?_
      refine L_q (Q_move rfl) rfl rfl rfl ?_
      first
        | refine L_q (Q_ldA 0 rfl rfl rfl) rfl rfl rfl ?_
        | refine L_q (Q_ldA 1 rfl rfl rfl) rfl rfl rfl ?_
        | refine L_q (Q_ldA 2 rfl rfl rfl) rfl rfl rfl ?_
        | refine L_q (Q_ldA 3 rfl rfl rfl) rfl rfl rfl ?_
        | refine L_q (Q_ldA 4 rfl rfl rfl) rfl rfl rfl ?_
        | refine L_q (Q_ldA 5 rfl rfl rfl) rfl rfl rfl ?_
        | refine L_q (Q_ldA 6 rfl rfl rfl) rfl rfl rfl ?_
        | refine L_q (Q_ldA 7 rfl rfl rfl) rfl rfl rfl ?_
        | refine L_q (Q_ldA 8 rfl rfl rfl) rfl rfl rfl ?_
        | refine L_q (Q_ldA 9 rfl rfl rfl) rfl rfl rfl ?_
      refine L_o rfl rfl rfl (O_litP (τ := tO) (m := 1) (sz := 3) [dueF now l[k]] rfl rfl rfl rfl rfl (by rw [hfx]; rfl) (by decide) (fun S3 => ?_))
      refine JL.norm ?_
      refine L_o rfl rfl rfl (O_app (τ := tO) 4 rfl (fun w h => h.rd 0 rfl) rfl rfl rfl rfl (by simp only [List.length_singleton]; omega) (by decide) (fun S4 => ?_))
      refine JL.norm ?_
      refine L_q (Q_assign rfl) rfl rfl rfl ?_
      refine JL_nil ?_
      repeat first
        | refine J_seq ?_
        | refine seqQ_normal ?_
        | refine J_condT rfl ?_
        | refine J_condF rfl ?_
        | refine J_block ?_
        | refine blockQ_normal ?_
        | refine J_exit ?_
        | refine seqQ_exit ?_
        | refine blockQ_hit ?_
        | refine blockQ_miss rfl ?_
        | refine J_skip ?_
        | refine J_ret ?_
        | refine seqQ_ret ?_
        | refine blockQ_ret ?_
        | refine loopQ_exit ?_
        | refine loopQ_ret ?_
        | refine J_label ?_
        | refine J_scope ?_
        | refine scopeQ_normal ?_
        | refine scopeQ_exit ?_
        | refine scopeQ_ret ?_
      repeat first
        | refine J_seq ?_
        | refine seqQ_normal ?_
        | refine J_condT rfl ?_
        | refine J_condF rfl ?_
        | refine J_block ?_
        | refine blockQ_normal ?_
        | refine J_exit ?_
        | refine seqQ_exit ?_
        | refine blockQ_hit ?_
        | refine blockQ_miss rfl ?_
        | refine J_skip ?_
        | refine J_ret ?_
        | refine seqQ_ret ?_
        | refine blockQ_ret ?_
        | refine loopQ_exit ?_
        | refine loopQ_ret ?_
        | refine J_label ?_
        | refine J_scope ?_
        | refine scopeQ_normal ?_
        | refine scopeQ_exit ?_
        | refine scopeQ_ret ?_
      refine J_region ?_
      refine L_q (Q_move rfl) rfl rfl rfl ?_
      refine L_q (Q_add rfl rfl (by first | exact IntWalk.i64_in _ (by omega) | exact IntWalk.u8_in _ (by omega) | exact IntWalk.u32_in _ (by omega) | exact IntWalk.u64_in _ (by omega) | rfl)) rfl rfl rfl ?_
      refine L_q (Q_assign rfl) rfl rfl rfl ?_
      refine JL_nil ?_
      repeat first
        | refine J_seq ?_
        | refine seqQ_normal ?_
        | refine J_condT rfl ?_
        | refine J_condF rfl ?_
        | refine J_block ?_
        | refine blockQ_normal ?_
        | refine J_exit ?_
        | refine seqQ_exit ?_
        | refine blockQ_hit ?_
        | refine blockQ_miss rfl ?_
        | refine J_skip ?_
        | refine J_ret ?_
        | refine seqQ_ret ?_
        | refine blockQ_ret ?_
        | refine loopQ_exit ?_
        | refine loopQ_ret ?_
        | refine J_label ?_
        | refine J_scope ?_
        | refine scopeQ_normal ?_
        | refine scopeQ_exit ?_
        | refine scopeQ_ret ?_
      exact loopQ_normal (k + 1, S4, O2) hlt (by simp only; omega) ⟨rfl, rfl, rfl, rfl, rfl, rfl, trivial⟩ (by simp only; rw [hs, ho]; exact Ent.re [3, 4, 5, 6, 7, 8] rfl)
    · have hfx : dueF now l[k] = l[k] := by unfold dueF; rw [if_neg hd]
      have ho : ((l.take (k + 1)).filter fun x : Op3 => decide (x.2.1 ≤ now)).map (fun x : Op3 => x.1) = ((l.take k).filter fun x : Op3 => decide (x.2.1 ≤ now)).map (fun x : Op3 => x.1) := by
        rw [List.take_succ_eq_append_getElem hlt, List.filter_append, List.map_append]; simp [hd]
      repeat first
        | refine J_seq ?_
        | refine seqQ_normal ?_
        | refine J_condT rfl ?_
        | refine J_condF rfl ?_
        | refine J_block ?_
        | refine blockQ_normal ?_
        | refine J_exit ?_
        | refine seqQ_exit ?_
        | refine blockQ_hit ?_
        | refine blockQ_miss rfl ?_
        | refine J_skip ?_
        | refine J_ret ?_
        | refine seqQ_ret ?_
        | refine blockQ_ret ?_
        | refine loopQ_exit ?_
        | refine loopQ_ret ?_
        | refine J_label ?_
        | refine J_scope ?_
        | refine scopeQ_normal ?_
        | refine scopeQ_exit ?_
        | refine scopeQ_ret ?_
      refine J_region ?_
      first
        | refine L_q (Q_fa0 rfl) rfl rfl rfl ?_
        | refine L_q (Q_fa rfl rfl) rfl rfl rfl ?_
        | refine L_q (Q_pfa rfl) rfl rfl rfl ?_
      first
        | refine L_q (Q_ld 0 rfl rfl rfl rfl) rfl rfl rfl ?_
        | refine L_q (Q_ld 1 rfl rfl rfl rfl) rfl rfl rfl ?_
        | refine L_q (Q_ld 2 rfl rfl rfl rfl) rfl rfl rfl ?_
        | refine L_q (Q_ld 3 rfl rfl rfl rfl) rfl rfl rfl ?_
        | refine L_q (Q_ld 4 rfl rfl rfl rfl) rfl rfl rfl ?_
        | refine L_q (Q_ld 5 rfl rfl rfl rfl) rfl rfl rfl ?_
        | refine L_q (Q_ld 6 rfl rfl rfl rfl) rfl rfl rfl ?_
        | refine L_q (Q_ld 7 rfl rfl rfl rfl) rfl rfl rfl ?_
        | refine L_q (Q_ld 8 rfl rfl rfl rfl) rfl rfl rfl ?_
        | refine L_q (Q_ld 9 rfl rfl rfl rfl) rfl rfl rfl ?_
      refine L_q (Q_move rfl) rfl rfl rfl ?_
      refine L_q ((Q_leq rfl rfl).as (v' := .bool false) (congrArg Value.bool (decide_eq_false hd))) rfl rfl rfl ?_
      refine JL_nil ?_
      repeat first
        | refine J_seq ?_
        | refine seqQ_normal ?_
        | refine J_condT rfl ?_
        | refine J_condF rfl ?_
        | refine J_block ?_
        | refine blockQ_normal ?_
        | refine J_exit ?_
        | refine seqQ_exit ?_
        | refine blockQ_hit ?_
        | refine blockQ_miss rfl ?_
        | refine J_skip ?_
        | refine J_ret ?_
        | refine seqQ_ret ?_
        | refine blockQ_ret ?_
        | refine loopQ_exit ?_
        | refine loopQ_ret ?_
        | refine J_label ?_
        | refine J_scope ?_
        | refine scopeQ_normal ?_
        | refine scopeQ_exit ?_
        | refine scopeQ_ret ?_
      repeat first
        | refine J_seq ?_
        | refine seqQ_normal ?_
        | refine J_condT rfl ?_
        | refine J_condF rfl ?_
        | refine J_block ?_
        | refine blockQ_normal ?_
        | refine J_exit ?_
        | refine seqQ_exit ?_
        | refine blockQ_hit ?_
        | refine blockQ_miss rfl ?_
        | refine J_skip ?_
        | refine J_ret ?_
        | refine seqQ_ret ?_
        | refine blockQ_ret ?_
        | refine loopQ_exit ?_
        | refine loopQ_ret ?_
        | refine J_label ?_
        | refine J_scope ?_
        | refine scopeQ_normal ?_
        | refine scopeQ_exit ?_
        | refine scopeQ_ret ?_
      refine J_region ?_
      refine L_q (Q_move rfl) rfl rfl rfl ?_
      first
        | refine L_q (Q_ldA 0 rfl rfl rfl) rfl rfl rfl ?_
        | refine L_q (Q_ldA 1 rfl rfl rfl) rfl rfl rfl ?_
        | refine L_q (Q_ldA 2 rfl rfl rfl) rfl rfl rfl ?_
        | refine L_q (Q_ldA 3 rfl rfl rfl) rfl rfl rfl ?_
        | refine L_q (Q_ldA 4 rfl rfl rfl) rfl rfl rfl ?_
        | refine L_q (Q_ldA 5 rfl rfl rfl) rfl rfl rfl ?_
        | refine L_q (Q_ldA 6 rfl rfl rfl) rfl rfl rfl ?_
        | refine L_q (Q_ldA 7 rfl rfl rfl) rfl rfl rfl ?_
        | refine L_q (Q_ldA 8 rfl rfl rfl) rfl rfl rfl ?_
        | refine L_q (Q_ldA 9 rfl rfl rfl) rfl rfl rfl ?_
      refine L_o rfl rfl rfl (O_litP (τ := tO) (m := 1) (sz := 3) [l[k]] rfl rfl rfl rfl rfl rfl (by decide) (fun S3 => ?_))
      refine JL.norm ?_
      refine L_o rfl rfl rfl (O_app (τ := tO) 3 rfl (fun w h => h.rd 0 rfl) rfl rfl rfl rfl (by simp only [List.length_singleton]; omega) (by decide) (fun S4 => ?_))
      refine JL.norm ?_
      refine L_q (Q_assign rfl) rfl rfl rfl ?_
      refine JL_nil ?_
      repeat first
        | refine J_seq ?_
        | refine seqQ_normal ?_
        | refine J_condT rfl ?_
        | refine J_condF rfl ?_
        | refine J_block ?_
        | refine blockQ_normal ?_
        | refine J_exit ?_
        | refine seqQ_exit ?_
        | refine blockQ_hit ?_
        | refine blockQ_miss rfl ?_
        | refine J_skip ?_
        | refine J_ret ?_
        | refine seqQ_ret ?_
        | refine blockQ_ret ?_
        | refine loopQ_exit ?_
        | refine loopQ_ret ?_
        | refine J_label ?_
        | refine J_scope ?_
        | refine scopeQ_normal ?_
        | refine scopeQ_exit ?_
        | refine scopeQ_ret ?_
      repeat first
        | refine J_seq ?_
        | refine seqQ_normal ?_
        | refine J_condT rfl ?_
        | refine J_condF rfl ?_
        | refine J_block ?_
        | refine blockQ_normal ?_
        | refine J_exit ?_
        | refine seqQ_exit ?_
        | refine blockQ_hit ?_
        | refine blockQ_miss rfl ?_
        | refine J_skip ?_
        | refine J_ret ?_
        | refine seqQ_ret ?_
        | refine blockQ_ret ?_
        | refine loopQ_exit ?_
        | refine loopQ_ret ?_
        | refine J_label ?_
        | refine J_scope ?_
        | refine scopeQ_normal ?_
        | refine scopeQ_exit ?_
        | refine scopeQ_ret ?_
      refine J_region ?_
      refine L_q (Q_move rfl) rfl rfl rfl ?_
      refine L_q (Q_add rfl rfl (by first | exact IntWalk.i64_in _ (by omega) | exact IntWalk.u8_in _ (by omega) | exact IntWalk.u32_in _ (by omega) | exact IntWalk.u64_in _ (by omega) | rfl)) rfl rfl rfl ?_
      refine L_q (Q_assign rfl) rfl rfl rfl ?_
      refine JL_nil ?_
      repeat first
        | refine J_seq ?_
        | refine seqQ_normal ?_
        | refine J_condT rfl ?_
        | refine J_condF rfl ?_
        | refine J_block ?_
        | refine blockQ_normal ?_
        | refine J_exit ?_
        | refine seqQ_exit ?_
        | refine blockQ_hit ?_
        | refine blockQ_miss rfl ?_
        | refine J_skip ?_
        | refine J_ret ?_
        | refine seqQ_ret ?_
        | refine blockQ_ret ?_
        | refine loopQ_exit ?_
        | refine loopQ_ret ?_
        | refine J_label ?_
        | refine J_scope ?_
        | refine scopeQ_normal ?_
        | refine scopeQ_exit ?_
        | refine scopeQ_ret ?_
      exact loopQ_normal (k + 1, S4, O) hlt (by simp only; omega) ⟨rfl, rfl, rfl, rfl, rfl, rfl, trivial⟩ (by simp only; rw [hs, ho, hfx]; exact Ent.re [2, 3, 4, 5, 6, 7] rfl)
  · obtain rfl : k = l.length := by omega
    rw [List.take_length]
    repeat first
      | refine J_seq ?_
      | refine seqQ_normal ?_
      | refine J_condT rfl ?_
      | refine J_condF rfl ?_
      | refine J_block ?_
      | refine blockQ_normal ?_
      | refine J_exit ?_
      | refine seqQ_exit ?_
      | refine blockQ_hit ?_
      | refine blockQ_miss rfl ?_
      | refine J_skip ?_
      | refine J_ret ?_
      | refine seqQ_ret ?_
      | refine blockQ_ret ?_
      | refine loopQ_exit ?_
      | refine loopQ_ret ?_
      | refine J_label ?_
      | refine J_scope ?_
      | refine scopeQ_normal ?_
      | refine scopeQ_exit ?_
      | refine scopeQ_ret ?_
    refine J_region ?_
    refine L_q (Q_move rfl) rfl rfl rfl ?_
    first
      | refine L_q (Q_fa0 rfl) rfl rfl rfl ?_
      | refine L_q (Q_fa rfl rfl) rfl rfl rfl ?_
      | refine L_q (Q_pfa rfl) rfl rfl rfl ?_
    first
      | refine L_s rfl rfl (O_st1 0 rfl rfl rfl rfl rfl ?_)
      | refine L_s rfl rfl (O_st1 1 rfl rfl rfl rfl rfl ?_)
      | refine L_s rfl rfl (O_st1 2 rfl rfl rfl rfl rfl ?_)
      | refine L_s rfl rfl (O_st1 3 rfl rfl rfl rfl rfl ?_)
      | refine L_s rfl rfl (O_st1 4 rfl rfl rfl rfl rfl ?_)
      | refine L_s rfl rfl (O_st1 5 rfl rfl rfl rfl rfl ?_)
      | refine L_s rfl rfl (O_st1 6 rfl rfl rfl rfl rfl ?_)
      | refine L_s rfl rfl (O_st1 7 rfl rfl rfl rfl rfl ?_)
      | refine L_s rfl rfl (O_st1 8 rfl rfl rfl rfl rfl ?_)
      | refine L_s rfl rfl (O_st1 9 rfl rfl rfl rfl rfl ?_)
    refine JL.norm ?_
    refine JL_nil ?_
    repeat first
      | refine J_seq ?_
      | refine seqQ_normal ?_
      | refine J_condT rfl ?_
      | refine J_condF rfl ?_
      | refine J_block ?_
      | refine blockQ_normal ?_
      | refine J_exit ?_
      | refine seqQ_exit ?_
      | refine blockQ_hit ?_
      | refine blockQ_miss rfl ?_
      | refine J_skip ?_
      | refine J_ret ?_
      | refine seqQ_ret ?_
      | refine blockQ_ret ?_
      | refine loopQ_exit ?_
      | refine loopQ_ret ?_
      | refine J_label ?_
      | refine J_scope ?_
      | refine scopeQ_normal ?_
      | refine scopeQ_exit ?_
      | refine scopeQ_ret ?_
    repeat first
      | refine J_seq ?_
      | refine seqQ_normal ?_
      | refine J_condT rfl ?_
      | refine J_condF rfl ?_
      | refine J_block ?_
      | refine blockQ_normal ?_
      | refine J_exit ?_
      | refine seqQ_exit ?_
      | refine blockQ_hit ?_
      | refine blockQ_miss rfl ?_
      | refine J_skip ?_
      | refine J_ret ?_
      | refine seqQ_ret ?_
      | refine blockQ_ret ?_
      | refine loopQ_exit ?_
      | refine loopQ_ret ?_
      | refine J_label ?_
      | refine J_scope ?_
      | refine scopeQ_normal ?_
      | refine scopeQ_exit ?_
      | refine scopeQ_ret ?_
    refine J_region ?_
    first
      | refine L_q (Q_ldA 0 rfl rfl rfl) rfl rfl rfl ?_
      | refine L_q (Q_ldA 1 rfl rfl rfl) rfl rfl rfl ?_
      | refine L_q (Q_ldA 2 rfl rfl rfl) rfl rfl rfl ?_
      | refine L_q (Q_ldA 3 rfl rfl rfl) rfl rfl rfl ?_
      | refine L_q (Q_ldA 4 rfl rfl rfl) rfl rfl rfl ?_
      | refine L_q (Q_ldA 5 rfl rfl rfl) rfl rfl rfl ?_
      | refine L_q (Q_ldA 6 rfl rfl rfl) rfl rfl rfl ?_
      | refine L_q (Q_ldA 7 rfl rfl rfl) rfl rfl rfl ?_
      | refine L_q (Q_ldA 8 rfl rfl rfl) rfl rfl rfl ?_
      | refine L_q (Q_ldA 9 rfl rfl rfl) rfl rfl rfl ?_
    refine L_q (Q_move rfl) rfl rfl rfl ?_
    first
      | refine L_s rfl rfl (O_stW 0 rfl rfl rfl rfl ?_)
      | refine L_s rfl rfl (O_stW 1 rfl rfl rfl rfl ?_)
      | refine L_s rfl rfl (O_stW 2 rfl rfl rfl rfl ?_)
      | refine L_s rfl rfl (O_stW 3 rfl rfl rfl rfl ?_)
      | refine L_s rfl rfl (O_stW 4 rfl rfl rfl rfl ?_)
      | refine L_s rfl rfl (O_stW 5 rfl rfl rfl rfl ?_)
      | refine L_s rfl rfl (O_stW 6 rfl rfl rfl rfl ?_)
      | refine L_s rfl rfl (O_stW 7 rfl rfl rfl rfl ?_)
      | refine L_s rfl rfl (O_stW 8 rfl rfl rfl rfl ?_)
      | refine L_s rfl rfl (O_stW 9 rfl rfl rfl rfl ?_)
    refine JL.norm ?_
    refine L_q (Q_assign rfl) rfl rfl rfl ?_
    refine JL_nil ?_
    repeat first
      | refine J_seq ?_
      | refine seqQ_normal ?_
      | refine J_condT rfl ?_
      | refine J_condF rfl ?_
      | refine J_block ?_
      | refine blockQ_normal ?_
      | refine J_exit ?_
      | refine seqQ_exit ?_
      | refine blockQ_hit ?_
      | refine blockQ_miss rfl ?_
      | refine J_skip ?_
      | refine J_ret ?_
      | refine seqQ_ret ?_
      | refine blockQ_ret ?_
      | refine loopQ_exit ?_
      | refine loopQ_ret ?_
      | refine J_label ?_
      | refine J_scope ?_
      | refine scopeQ_normal ?_
      | refine scopeQ_exit ?_
      | refine scopeQ_ret ?_
    exact retQ_ret _ [slc tO true S (l.map (dueF now)), slc tZ true O ((l.filter fun x : Op3 => decide (x.2.1 ≤ now)).map fun x : Op3 => x.1)] (.cons (RV_cell 2 rfl rfl rfl rfl) (.cons (RV_tmp rfl) .nil)) ⟨S, O, rfl, rfl⟩ (Ent.re [1, 0, 5] rfl)
end Go.Proofs
