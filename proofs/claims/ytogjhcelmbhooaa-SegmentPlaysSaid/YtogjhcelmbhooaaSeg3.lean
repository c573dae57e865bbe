/- A file's records read, its index made anew. -/
import Derived.Test.YtogjhcelmbhooaaSeg2
set_option autoImplicit false
namespace Go.Proofs
open Go.SL
attribute [local irreducible] J JL QOp JOp seqQ blockQ loopQ retQ slc cel hex star pur stars Does RV Ent pAt
attribute [local irreducible] fileAt diskAt
theorem fget_ok (E : World) (f : Fl) (q i : Nat) (h : i < f.l.length) (ht : (text f.l).length ≤ 8192) (hl : ∀ t ∈ f.l, t.length ≤ 4096) : Does Try.prog E 41 [.pointer (some ⟨q, 0, none⟩), .int .i64 (i : Int)] [fileAt (f, q)] fun v L => v = str f.l[i] ∧ L = [fileAt (f, q)] := by
  have he := ends_len f.l
  have hlen := text_len f.l
  have hie : i < (ends f.l).length := by omega
  have hgi : (ends f.l)[i] = (text (f.l.take (i + 1))).length := ends_get f.l i hie
  have h1 := text_take_le f.l (i + 1)
  have h0 := text_take_le f.l i
  have h01 : (text (f.l.take i)).length ≤ (text (f.l.take (i + 1))).length := by
    rw [List.take_succ_eq_append_getElem h, text_snoc, List.length_append]; omega
  have hc := text_cut f.l i h
  have hrn : recV (frame f.l[i]) = .tuple #[str f.l[i], .int .i64 ((8 + f.l[i].length : Nat) : Int), .int .i64 0] := by
    have := recNext_frame f.l[i] [] (hl _ (List.getElem_mem h))
    rw [List.append_nil] at this
    unfold recV; rw [this]
  have hn := next_ok E (frame f.l[i]) (by rw [frame_len]; have := hl _ (List.getElem_mem h); omega)
  rw [hrn] at hn
  have htx := fun dp => text_ok E dp f.d
  have hdb : f.d.b = text f.l := rfl
  rw [hdb] at htx
  refine Does.of Try.func41 rfl Try.ntmps41 rfl rfl fun F => ?_
  refine J.norm ?_
  refine J_file fun S dp => ?_
  refine J_seq ?_
  refine J_region ?_
  refine L_q (Q_assign rfl) rfl rfl rfl ?_
  refine JL_nil ?_
  refine seqQ_normal ?_
  refine J_seq ?_
  refine J_region ?_
  refine L_q (Q_assign rfl) rfl rfl rfl ?_
  refine JL_nil ?_
  refine seqQ_normal ?_
  refine J_seq ?_
  refine J_seq ?_
  by_cases h2 : i = 0
  · subst h2
    refine J_region ?_
    refine L_q (Q_move rfl) rfl rfl rfl ?_
    refine L_q ((Q_gtr rfl rfl).as (v' := .bool false) rfl) rfl rfl rfl ?_
    refine JL_nil ?_
    refine seqQ_normal ?_
    refine J_condF rfl ?_
    refine J_skip ?_
    refine seqQ_normal ?_
    refine J_seq ?_
    have e0 : (text (f.l.take 0)).length = 0 := rfl
    rw [e0] at hc
    refine J_drawH [0,1] [0, 1, 2, 3, 5, 6, 7, 8, 9, 10, 11, 12, 13, 15, 16, 17, 18, 19, 20, 21] (.quiet 0 (.quiet 1 (.quiet 2 (.quiet 3 (.quiet 5 (.quiet 6 (.quiet 7 (.quiet 8 (.quiet 9 (.quiet 10 (.quiet 11 (.quiet 12 (.loud 4 (.quiet 13 (.loud 14 (.quiet 15 (.quiet 16 (.quiet 17 (.quiet 18 (.quiet 19 (.quiet 20 (.quiet 21 .done)))))))))))))))))))))) Try.mixed (by kernel_rfl) (by kernel_rfl) (by repeat (first | exact retQ_noP | refine seqQ_noP ?_ | refine blockQ_noP ?_ | refine loopQ_noP ?_ | refine scopeQ_noP ?_)) ?_
    refine S_q (Ent.re [0,1] rfl) rfl (Q_move rfl) rfl rfl rfl ?_
    refine S_q (Ent.re [0,1] rfl) rfl (Q_nilCheck rfl) rfl rfl rfl ?_
    refine S_q (Ent.re [0,1] rfl) rfl (Q_fa0 rfl) rfl rfl rfl ?_
    refine S_q (Ent.re [0,1] rfl) rfl (Q_ld 0 rfl rfl rfl rfl) rfl rfl rfl ?_
    refine S_q (Ent.re [0,1] rfl) rfl (Q_move rfl) rfl rfl rfl ?_
    refine S_q (Ent.re [0,1] rfl) rfl (Q_move rfl) rfl rfl rfl ?_
    refine S_q (Ent.re [0,1] rfl) rfl (Q_nilCheck rfl) rfl rfl rfl ?_
    refine S_q (Ent.re [0,1] rfl) rfl (Q_fa0 rfl) rfl rfl rfl ?_
    refine S_q (Ent.re [0,1] rfl) rfl (Q_ld 0 rfl rfl rfl rfl) rfl rfl rfl ?_
    refine S_q (Ent.re [0,1] rfl) rfl (Q_move rfl) rfl rfl rfl ?_
    refine S_q (Ent.re [0,1] rfl) rfl (Q_ixAt 1 0 rfl rfl rfl rfl hie rfl) rfl rfl rfl ?_
    refine S_q (Ent.re [0,1] rfl) rfl (Q_ldEAt 1 0 0 (v := .int .i64 ((text (f.l.take (0 + 1))).length : Int)) rfl rfl rfl rfl hie (by decide) (by rw [hgi]; rfl)) rfl rfl rfl ?_
    refine S_o rfl rfl rfl rfl (O_call [2] [0,1,3] (htx dp) rfl rfl ?_)
    (rintro _ _ ⟨rfl, rfl⟩; refine ⟨_, fun _ => ⟨Ent.reN [1,2] rfl, Ent.refl _⟩, ?_⟩)
    refine JS.norm ?_
    refine S_q (Ent.re [1,2] rfl) rfl ((Q_ssLH 0 (text (f.l.take (0 + 1))).length rfl rfl rfl rfl rfl (by omega) h1).as (congrArg str hc)) rfl rfl rfl ?_
    refine S_o rfl rfl rfl rfl (O_call [] [0,1,2,3] hn rfl rfl ?_)
    (rintro _ _ ⟨rfl, rfl⟩; refine ⟨_, fun _ => ⟨Ent.reN [1,2] rfl, Ent.refl _⟩, ?_⟩)
    refine JS.norm ?_
    refine S_q (Ent.re [1,2] rfl) rfl (Q_move rfl) rfl rfl rfl ?_
    refine S_q (Ent.re [1,2] rfl) rfl (Q_extract (v := str f.l[0]) rfl rfl) rfl rfl rfl ?_
    refine S_q (Ent.re [1,2] rfl) rfl (Q_extract (v := .int .i64 ((8 + f.l[0].length : Nat) : Int)) rfl rfl) rfl rfl rfl ?_
    refine S_q (Ent.re [1,2] rfl) rfl (Q_extract (v := .int .i64 0) rfl rfl) rfl rfl rfl ?_
    refine S_q (Ent.re [1,2] rfl) rfl (Q_assign rfl) rfl rfl rfl ?_
    refine S_q (Ent.re [1,2] rfl) rfl (Q_assign rfl) rfl rfl rfl ?_
    refine S_q (Ent.re [1,2] rfl) rfl (Q_assign rfl) rfl rfl rfl ?_
    refine S_nil ?_
    refine seqQ_normal ?_
    refine J_seq ?_
    refine J_region ?_
    refine L_q (Q_move rfl) rfl rfl rfl ?_
    refine L_q (Q_assign rfl) rfl rfl rfl ?_
    refine JL_nil ?_
    refine seqQ_normal ?_
    refine J_ret ?_
    exact retQ_ret _ [fileAt (f, q)] (.cons (RV_tmp rfl) .nil) ⟨rfl, rfl⟩ ((Ent.re [1, 2, 0, 3] rfl).trans (fileAt_mk rfl rfl rfl rfl))
  · obtain ⟨j, rfl⟩ : ∃ j, i = j + 1 := ⟨i - 1, by omega⟩
    have hje : j < (ends f.l).length := by omega
    have hgj : (ends f.l)[j] = (text (f.l.take (j + 1))).length := ends_get f.l j hje
    refine J_region ?_
    refine L_q (Q_move rfl) rfl rfl rfl ?_
    refine L_q ((Q_gtr rfl rfl).as (v' := .bool true) (congrArg Value.bool (decide_eq_true (by omega)))) rfl rfl rfl ?_
    refine JL_nil ?_
    refine seqQ_normal ?_
    refine J_condT rfl ?_
    refine J_region ?_
    refine L_q (Q_move rfl) rfl rfl rfl ?_
    refine L_q (Q_nilCheck rfl) rfl rfl rfl ?_
    refine L_q (Q_fa0 rfl) rfl rfl rfl ?_
    refine L_q (Q_ld 0 rfl rfl rfl rfl) rfl rfl rfl ?_
    refine L_q (Q_move rfl) rfl rfl rfl ?_
    refine L_q (Q_sub rfl rfl (by first | exact IntWalk.i64_in _ (by omega) | exact IntWalk.u8_in _ (by omega) | exact IntWalk.u32_in _ (by omega) | exact IntWalk.u64_in _ (by omega) | rfl)) rfl rfl rfl ?_
    refine L_q (Q_ixAt 1 j rfl rfl rfl (by omega) hje rfl) rfl rfl rfl ?_
    refine L_q (Q_ldEAt 1 j 0 (v := .int .i64 ((text (f.l.take (j + 1))).length : Int)) rfl rfl rfl rfl hje (by decide) (by rw [hgj]; rfl)) rfl rfl rfl ?_
    refine L_q (Q_assign rfl) rfl rfl rfl ?_
    refine JL_nil ?_
    refine seqQ_normal ?_
    refine J_seq ?_
    refine J_drawH [0,1] [0, 1, 2, 3, 5, 6, 7, 8, 9, 10, 11, 12, 13, 15, 16, 17, 18, 19, 20, 21] (.quiet 0 (.quiet 1 (.quiet 2 (.quiet 3 (.quiet 5 (.quiet 6 (.quiet 7 (.quiet 8 (.quiet 9 (.quiet 10 (.quiet 11 (.quiet 12 (.loud 4 (.quiet 13 (.loud 14 (.quiet 15 (.quiet 16 (.quiet 17 (.quiet 18 (.quiet 19 (.quiet 20 (.quiet 21 .done)))))))))))))))))))))) Try.mixed (by kernel_rfl) (by kernel_rfl) (by repeat (first | exact retQ_noP | refine seqQ_noP ?_ | refine blockQ_noP ?_ | refine loopQ_noP ?_ | refine scopeQ_noP ?_)) ?_
    refine S_q (Ent.re [0,1] rfl) rfl (Q_move rfl) rfl rfl rfl ?_
    refine S_q (Ent.re [0,1] rfl) rfl (Q_nilCheck rfl) rfl rfl rfl ?_
    refine S_q (Ent.re [0,1] rfl) rfl (Q_fa0 rfl) rfl rfl rfl ?_
    refine S_q (Ent.re [0,1] rfl) rfl (Q_ld 0 rfl rfl rfl rfl) rfl rfl rfl ?_
    refine S_q (Ent.re [0,1] rfl) rfl (Q_move rfl) rfl rfl rfl ?_
    refine S_q (Ent.re [0,1] rfl) rfl (Q_move rfl) rfl rfl rfl ?_
    refine S_q (Ent.re [0,1] rfl) rfl (Q_nilCheck rfl) rfl rfl rfl ?_
    refine S_q (Ent.re [0,1] rfl) rfl (Q_fa0 rfl) rfl rfl rfl ?_
    refine S_q (Ent.re [0,1] rfl) rfl (Q_ld 0 rfl rfl rfl rfl) rfl rfl rfl ?_
    refine S_q (Ent.re [0,1] rfl) rfl (Q_move rfl) rfl rfl rfl ?_
    refine S_q (Ent.re [0,1] rfl) rfl (Q_ixAt 1 (j + 1) rfl rfl rfl rfl hie rfl) rfl rfl rfl ?_
    refine S_q (Ent.re [0,1] rfl) rfl (Q_ldEAt 1 (j + 1) 0 (v := .int .i64 ((text (f.l.take (j + 1 + 1))).length : Int)) rfl rfl rfl rfl hie (by decide) (by rw [hgi]; rfl)) rfl rfl rfl ?_
    refine S_o rfl rfl rfl rfl (O_call [2] [0,1,3] (htx dp) rfl rfl ?_)
    (rintro _ _ ⟨rfl, rfl⟩; refine ⟨_, fun _ => ⟨Ent.reN [1,2] rfl, Ent.refl _⟩, ?_⟩)
    refine JS.norm ?_
    refine S_q (Ent.re [1,2] rfl) rfl ((Q_ssLH (text (f.l.take (j + 1))).length (text (f.l.take (j + 1 + 1))).length rfl rfl rfl rfl rfl h01 h1).as (congrArg str hc)) rfl rfl rfl ?_
    refine S_o rfl rfl rfl rfl (O_call [] [0,1,2,3] hn rfl rfl ?_)
    (rintro _ _ ⟨rfl, rfl⟩; refine ⟨_, fun _ => ⟨Ent.reN [1,2] rfl, Ent.refl _⟩, ?_⟩)
    refine JS.norm ?_
    refine S_q (Ent.re [1,2] rfl) rfl (Q_move rfl) rfl rfl rfl ?_
    refine S_q (Ent.re [1,2] rfl) rfl (Q_extract (v := str f.l[j + 1]) rfl rfl) rfl rfl rfl ?_
    refine S_q (Ent.re [1,2] rfl) rfl (Q_extract (v := .int .i64 ((8 + f.l[j + 1].length : Nat) : Int)) rfl rfl) rfl rfl rfl ?_
    refine S_q (Ent.re [1,2] rfl) rfl (Q_extract (v := .int .i64 0) rfl rfl) rfl rfl rfl ?_
    refine S_q (Ent.re [1,2] rfl) rfl (Q_assign rfl) rfl rfl rfl ?_
    refine S_q (Ent.re [1,2] rfl) rfl (Q_assign rfl) rfl rfl rfl ?_
    refine S_q (Ent.re [1,2] rfl) rfl (Q_assign rfl) rfl rfl rfl ?_
    refine S_nil ?_
    refine seqQ_normal ?_
    refine J_seq ?_
    refine J_region ?_
    refine L_q (Q_move rfl) rfl rfl rfl ?_
    refine L_q (Q_assign rfl) rfl rfl rfl ?_
    refine JL_nil ?_
    refine seqQ_normal ?_
    refine J_ret ?_
    exact retQ_ret _ [fileAt (f, q)] (.cons (RV_tmp rfl) .nil) ⟨rfl, rfl⟩ ((Ent.re [1, 2, 0, 3] rfl).trans (fileAt_mk rfl rfl rfl rfl))
theorem index_ok (E : World) (q dp fi : Nat) (S : SV) (es : List Nat) (d : Dk) (hd : d.b.length ≤ 8192) (hs : d.s = d.b.length) :
    Does Try.prog E 39 [.pointer (some ⟨q, 0, none⟩)] [cel q [.int .i64 (fi : Int), S.v, .pointer (some ⟨dp, 0, none⟩)] 78, slc tI true S es, diskAt dp d] fun v L => v = .tuple #[] ∧ L = [fileAt (⟨fi, (prefixR d.b).1, (prefixR d.b).2⟩, q)] := by
  obtain ⟨p1, p2, p3⟩ := prefixR_text _ d.b (Nat.le_refl _)
  have hpre := prefix_ok E d.b (by omega)
  have p4 : (text (prefixR d.b).1).length = (prefixR d.b).2 := by rw [p1, List.length_take]; omega
  have p5 := text_len (prefixR d.b).1
  generalize hl' : (prefixR d.b).1 = l at *
  generalize hm' : (prefixR d.b).2 = m at *
  have hcut : cutD d m = (⟨fi, l, m⟩ : Fl).d := by
    unfold cutD Fl.d
    split
    · rw [p1, hs]; congr 1; exact Nat.min_eq_right (by omega)
    · have : m = d.b.length := by omega
      rw [p1, this, List.take_length, ← hs]
  refine Does.of Try.func39 rfl Try.ntmps39 rfl rfl fun F => ?_
  refine J.norm ?_
  refine J_seq ?_
  refine J_region ?_
  refine L_q (Q_move rfl) rfl rfl rfl ?_
  refine L_q (Q_nilCheck rfl) rfl rfl rfl ?_
  refine L_q (Q_fa0 rfl) rfl rfl rfl ?_
  refine L_q (Q_ld 0 rfl rfl rfl rfl) rfl rfl rfl ?_
  refine L_o rfl rfl rfl (O_call [2] [0,1,3] (text_ok E dp d) rfl rfl ?_)
  rintro _ _ ⟨rfl, rfl⟩
  refine JL.norm ?_
  refine L_o rfl rfl rfl (O_call [] [0,1,2,3] hpre rfl rfl ?_)
  rintro _ _ ⟨T, rfl, rfl⟩
  refine JL.norm ?_
  refine L_q (Q_move rfl) rfl rfl rfl ?_
  refine L_q (Q_extract (v := T.v) rfl rfl) rfl rfl rfl ?_
  refine L_q (Q_extract (v := .int .i64 (m : Int)) rfl rfl) rfl rfl rfl ?_
  refine L_q (Q_assign rfl) rfl rfl rfl ?_
  refine L_q (Q_assign rfl) rfl rfl rfl ?_
  refine JL_nil ?_
  refine seqQ_normal ?_
  refine J_seq ?_
  refine J_region ?_
  refine L_q (Q_move rfl) rfl rfl rfl ?_
  refine L_q (Q_nilCheck rfl) rfl rfl rfl ?_
  refine L_q (Q_fa0 rfl) rfl rfl rfl ?_
  refine L_s rfl rfl (O_st1 2 rfl rfl rfl rfl rfl ?_)
  refine JL.norm ?_
  refine JL_nil ?_
  refine seqQ_normal ?_
  refine J_seq ?_
  refine J_region ?_
  refine L_q (Q_assign rfl) rfl rfl rfl ?_
  refine JL_nil ?_
  refine seqQ_normal ?_
  refine J_seq ?_
  refine J_seq ?_
  refine J_region ?_
  refine L_q (Q_move rfl) rfl rfl rfl ?_
  refine L_q (Q_lenAt 0 rfl rfl) rfl rfl rfl ?_
  refine L_q (Q_move rfl) rfl rfl rfl ?_
  refine JL_nil ?_
  refine seqQ_normal ?_
  refine J_block ?_
  refine J.ent (Ent.mk fun _ _ h => (h.lay_nil tI true : Sat _ _ (slc tI true SV.nil [] :: _))) ?_
  refine J_loop (fun i : Nat × SV => i.1 ≤ l.length) (fun i => [(0, .pointer (some ⟨q, 0, none⟩)), (4, .int .i64 ((text (l.take i.1)).length : Int)), (21, T.v), (22, .int .i64 (l.length : Int)), (23, .int .i64 (i.1 : Int))])
    (fun i => [slc tI true i.2 (ends (l.take i.1)), cel q [.int .i64 (fi : Int), i.2.v, .pointer (some ⟨dp, 0, none⟩)] 78, slc tS true T l, diskAt dp d, F]) (fun i => l.length - i.1) (0, SV.nil) (by simp) ⟨rfl, rfl, rfl, rfl, rfl, trivial⟩ (Ent.re [0, 3, 1, 2, 5] rfl) ?_
  rintro ⟨k, B⟩ hk
  dsimp only at hk ⊢
  refine J_seq ?_
  refine J_region ?_
  refine L_q (Q_lss rfl rfl) rfl rfl rfl ?_
  refine JL_nil ?_
  refine seqQ_normal ?_
  refine J_seq ?_
  refine J_condD rfl (fun h => ?_) (fun h => ?_)
  · have hlt : k < l.length := by omega
    have hfr := frame_ok E l[k]
    rw [show frameV l[k] = .tuple #[str (frame l[k]), .int .i64 0] by unfold frameV; rw [if_neg (by have := p3 _ (List.getElem_mem hlt); omega)]] at hfr
    have hsn : text (l.take (k + 1)) = text (l.take k) ++ frame l[k] := by rw [List.take_succ_eq_append_getElem hlt, text_snoc]
    have hsl : (text (l.take (k + 1))).length = (text (l.take k)).length + (frame l[k]).length := by rw [hsn, List.length_append]
    have hen : ends (l.take (k + 1)) = ends (l.take k) ++ [(text (l.take k)).length + (frame l[k]).length] := by
      rw [List.take_succ_eq_append_getElem hlt, ends_snoc, ← List.take_succ_eq_append_getElem hlt, hsl]
    have hb1 := text_take_le l (k + 1)
    have hel : (ends (l.take k)).length ≤ 8192 := by rw [ends_len, List.length_take]; omega
    refine J_skip ?_
    refine seqQ_normal ?_
    refine J_seq ?_
    refine J_block ?_
    refine J_seq ?_
    refine J_region ?_
    refine L_q (Q_ixAt 2 k rfl rfl rfl rfl hlt rfl) rfl rfl rfl ?_
    refine L_q (Q_ldEAt 2 k 0 (v := str l[k]) rfl rfl rfl rfl hlt (by decide) rfl) rfl rfl rfl ?_
    refine L_q (Q_assign rfl) rfl rfl rfl ?_
    refine JL_nil ?_
    refine seqQ_normal ?_
    refine J_seq ?_
    refine J_region ?_
    refine L_q (Q_move rfl) rfl rfl rfl ?_
    refine L_o rfl rfl rfl (O_call [] [0,1,2,3,4] hfr rfl rfl ?_)
    rintro _ _ ⟨rfl, rfl⟩
    refine JL.norm ?_
    refine L_q (Q_move rfl) rfl rfl rfl ?_
    refine L_q (Q_extract (v := str (frame l[k])) rfl rfl) rfl rfl rfl ?_
    refine L_q (Q_extract (v := .int .i64 0) rfl rfl) rfl rfl rfl ?_
    refine L_q (Q_assign rfl) rfl rfl rfl ?_
    refine L_q (Q_assign rfl) rfl rfl rfl ?_
    refine JL_nil ?_
    refine seqQ_normal ?_
    refine J_seq ?_
    refine J_region ?_
    refine L_q (Q_move rfl) rfl rfl rfl ?_
    refine L_q (Q_move rfl) rfl rfl rfl ?_
    refine L_q (Q_slen rfl) rfl rfl rfl ?_
    refine L_q (Q_add rfl rfl (by first | exact IntWalk.i64_in _ (by omega) | exact IntWalk.u8_in _ (by omega) | exact IntWalk.u32_in _ (by omega) | exact IntWalk.u64_in _ (by omega) | rfl)) rfl rfl rfl ?_
    refine L_q (Q_assign rfl) rfl rfl rfl ?_
    refine JL_nil ?_
    refine seqQ_normal ?_
    refine J_region ?_
    refine L_q (Q_move rfl) rfl rfl rfl ?_
    refine L_q (Q_move rfl) rfl rfl rfl ?_
    refine L_q (Q_nilCheck rfl) rfl rfl rfl ?_
    refine L_q (Q_fa0 rfl) rfl rfl rfl ?_
    refine L_q (Q_ld 1 rfl rfl rfl rfl) rfl rfl rfl ?_
    refine L_q (Q_move rfl) rfl rfl rfl ?_
    refine L_o rfl rfl rfl (O_litP (τ := tI) (m := 1) (sz := 1) [(text (l.take k)).length + (frame l[k]).length] rfl rfl rfl rfl rfl rfl (by decide) (fun S1 => ?_))
    refine JL.norm ?_
    refine L_o rfl rfl rfl (O_app (τ := tI) 1 rfl (fun w h => h.rd 0 rfl) rfl rfl rfl rfl (by simp only [List.length_singleton]; omega) (by decide) (fun S2 => ?_))
    refine JL.norm ?_
    refine L_q (Q_nilCheck rfl) rfl rfl rfl ?_
    refine L_q (Q_fa0 rfl) rfl rfl rfl ?_
    refine L_s rfl rfl (O_st1 2 rfl rfl rfl rfl rfl ?_)
    refine JL.norm ?_
    refine JL_nil ?_
    refine blockQ_normal ?_
    refine seqQ_normal ?_
    refine J_region ?_
    refine L_q (Q_add rfl rfl (by first | exact IntWalk.i64_in _ (by omega) | exact IntWalk.u8_in _ (by omega) | exact IntWalk.u32_in _ (by omega) | exact IntWalk.u64_in _ (by omega) | rfl)) rfl rfl rfl ?_
    refine L_q (Q_move rfl) rfl rfl rfl ?_
    refine JL_nil ?_
    exact loopQ_normal (k + 1, S2) hlt (by simp only; omega) ⟨rfl, by rw [hsl]; rfl, rfl, rfl, rfl, trivial⟩ (by simp only; rw [hen]; exact Ent.re [1, 2, 3, 4, 5] rfl)
  · obtain rfl : k = l.length := by omega
    rw [List.take_length, p4]
    refine J_exit ?_
    refine seqQ_exit ?_
    refine loopQ_exit ?_
    refine blockQ_hit ?_
    refine seqQ_normal ?_
    refine J_region ?_
    refine L_q (Q_move rfl) rfl rfl rfl ?_
    refine L_q (Q_nilCheck rfl) rfl rfl rfl ?_
    refine L_q (Q_fa0 rfl) rfl rfl rfl ?_
    refine L_q (Q_ld 1 rfl rfl rfl rfl) rfl rfl rfl ?_
    refine L_q (Q_move rfl) rfl rfl rfl ?_
    refine L_o rfl rfl rfl (O_call [3] [0,1,2,4] (cut_ok E dp m d (by omega) (by omega)) rfl rfl ?_)
    rintro _ _ ⟨rfl, rfl⟩
    refine JL.norm ?_
    refine JL_nil ?_
    rw [hcut]
    exact retQ_normal [] [fileAt (⟨fi, l, m⟩, q)] .nil ⟨rfl, rfl⟩ ((Ent.re [2, 1, 0, 4] rfl).trans (fileAt_mk rfl rfl rfl rfl))
end Go.Proofs
