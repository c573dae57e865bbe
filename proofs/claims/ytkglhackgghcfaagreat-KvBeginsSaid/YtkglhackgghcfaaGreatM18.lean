/- Part 18 of the texts below the row: Seg7, Seg8, Seg9, DiskQ, SegQ, BackQ. -/
import Derived.Test.YtkglhackgghcfaaGreatM17
/- A log in files: a drop; an append. -/
set_option autoImplicit false
namespace Go.Proofs
open Go.SL
theorem dropN_step : ∀ (a : List Fl) (f f2 : Fl) (b : List Fl) (seq : Int), (f.next : Int) ≤ seq → dropN (a ++ f :: f2 :: b) seq = a.length + dropN (f :: f2 :: b) seq → dropN (a ++ f :: f2 :: b) seq = (a.length + 1) + dropN (f2 :: b) seq := by
  intro a f f2 b seq h h2
  rw [h2]
  simp only [dropN]
  rw [if_pos h]; omega
attribute [local irreducible] J JL QOp JOp seqQ blockQ loopQ retQ slc cel hex star pur stars Does RV Ent pAt scopeQ
attribute [local irreducible] fileAt diskAt
theorem sdrop_ok (E : World) (p size sure : Nat) (S : SV) (ps : List Fp) (seq : Int) (hps : ps.length ≤ 16) (hok : ∀ r ∈ ps, r.1.next ≤ 10000000) :
    Does Tryz.prog E 34 [.pointer (some ⟨p, 0, none⟩), .int .i64 seq] [segC p size sure S, slc tPf true S ps, fsC ps] fun v L => ∃ S' : SV, v = .int .i64 (dropN (ps.map (·.1)) seq : Int) ∧
      L = [segC p size sure S', slc tPf true S' (ps.drop (dropN (ps.map (·.1)) seq)), fsC (ps.drop (dropN (ps.map (·.1)) seq))] := by
  have hdl := dropN_le (ps.map (·.1)) seq
  rw [List.length_map] at hdl
  have hdel := fun m (h : m ≤ ps.length) => delete_ok E S ps 0 m (Nat.zero_le _) h (by omega)
  refine Does.of Tryz.func34 rfl Tryz.ntmps34 rfl rfl fun F => ?_
  refine J.norm ?_
  refine J_seq ?_
  refine J_region ?_
  refine L_q (Q_assign rfl) rfl rfl rfl ?_
  refine JL_nil ?_
  refine seqQ_normal ?_
  refine J_scope ?_
  refine J_seq ?_
  refine J_seq ?_
  refine J_region ?_
  refine L_q (Q_move rfl) rfl rfl rfl ?_
  refine L_q ((Q_peql rfl rfl).as (v' := .bool false) rfl) rfl rfl rfl ?_
  refine JL_nil ?_
  refine seqQ_normal ?_
  refine J_condF rfl ?_
  refine J_skip ?_
  refine seqQ_normal ?_
  refine J_seq ?_
  refine J_region ?_
  refine L_q (Q_assign rfl) rfl rfl rfl ?_
  refine JL_nil ?_
  refine seqQ_normal ?_
  refine J_seq ?_
  refine J_label ?_
  refine seqQ_normal ?_
  refine J_seq ?_
  refine J_seq ?_
  refine J_region ?_
  refine L_q (Q_move rfl) rfl rfl rfl ?_
  refine L_q (Q_nilCheck rfl) rfl rfl rfl ?_
  refine L_q (Q_fa0 rfl) rfl rfl rfl ?_
  refine L_q (Q_ld 0 rfl rfl rfl rfl) rfl rfl rfl ?_
  refine L_q (Q_lenAt 1 rfl rfl) rfl rfl rfl ?_
  refine L_q (Q_move rfl) rfl rfl rfl ?_
  refine JL_nil ?_
  refine seqQ_normal ?_
  refine J_block ?_
  refine J_loop (fun k : Nat => k ≤ ps.length ∧ dropN (ps.map (·.1)) seq = k + dropN ((ps.drop k).map (·.1)) seq) (fun k => [(0, .pointer (some ⟨p, 0, none⟩)), (1, .int .i64 seq), (5, .int .i64 (k : Int)), (13, S.v), (14, .int .i64 (ps.length : Int)), (15, .int .i64 (k : Int))])
    (fun _ => [segC p size sure S, slc tPf true S ps, fsC ps, F]) (fun k => ps.length - k) 0 ⟨by simp, by simp⟩ ⟨rfl, rfl, rfl, rfl, rfl, rfl, trivial⟩ (Ent.refl _) ?_
  rintro k ⟨hk, hg⟩
  refine J_seq ?_
  refine J_region ?_
  refine L_q (Q_lss rfl rfl) rfl rfl rfl ?_
  refine JL_nil ?_
  refine seqQ_normal ?_
  refine J_seq ?_
  refine J_condD rfl (fun h => ?_) (fun h => ?_)
  · have hlt : k < ps.length := by omega
    obtain ⟨a, ⟨f, q⟩, b, rfl, rfl⟩ := split_at ps k hlt
    have hgm := get_mid a (f, q) b hlt
    have o3' : f.next ≤ 10000000 := hok (f, q) (by simp)
    rw [List.drop_left] at hg
    refine J_skip ?_
    refine seqQ_normal ?_
    refine J_seq ?_
    refine J_block ?_
    refine J_seq ?_
    refine J_region ?_
    refine L_q (Q_move rfl) rfl rfl rfl ?_
    refine L_q (Q_ixAt 1 a.length rfl rfl rfl rfl hlt rfl) rfl rfl rfl ?_
    refine L_q (Q_ldEAt 1 a.length 0 (v := .pointer (some ⟨q, 0, none⟩)) rfl rfl rfl rfl hlt (by decide) (by rw [hgm]; rfl)) rfl rfl rfl ?_
    refine L_q (Q_assign rfl) rfl rfl rfl ?_
    refine L_q (Q_assign rfl) rfl rfl rfl ?_
    refine JL_nil ?_
    refine seqQ_normal ?_
    refine J_seq ?_
    refine J_block ?_
    refine J_seq ?_
    have hlen : (a ++ (f, q) :: b).length = a.length + (b.length + 1) := by simp
    cases b with
    | nil =>
      refine J_region ?_
      refine L_q (Q_move rfl) rfl rfl rfl ?_
      refine L_q (Q_move rfl) rfl rfl rfl ?_
      refine L_q (Q_nilCheck rfl) rfl rfl rfl ?_
      refine L_q (Q_fa0 rfl) rfl rfl rfl ?_
      refine L_q (Q_ld 0 rfl rfl rfl rfl) rfl rfl rfl ?_
      refine L_q (Q_lenAt 1 rfl rfl) rfl rfl rfl ?_
      refine L_q (Q_sub rfl rfl (by first | exact IntWalk.i64_in _ (by omega) | exact IntWalk.u8_in _ (by omega) | exact IntWalk.u32_in _ (by omega) | exact IntWalk.u64_in _ (by omega) | rfl)) rfl rfl rfl ?_
      refine L_q ((Q_eql rfl rfl).as (v' := .bool true) (congrArg Value.bool (decide_eq_true (by rw [hlen]; simp only [List.length_nil]; omega)))) rfl rfl rfl ?_
      refine L_q (Q_assign rfl) rfl rfl rfl ?_
      refine JL_nil ?_
      refine seqQ_normal ?_
      refine J_condT rfl ?_
      refine J_exit ?_
      refine blockQ_miss rfl ?_
      refine seqQ_exit ?_
      refine blockQ_miss rfl ?_
      refine seqQ_exit ?_
      refine loopQ_exit ?_
      refine blockQ_hit ?_
      refine seqQ_normal ?_
      refine J_seq ?_
      have hg2 : dropN ((a ++ [(f, q)]).map (·.1)) seq = a.length := by rw [hg]; rfl
      refine J_region ?_
      refine L_q (Q_move rfl) rfl rfl rfl ?_
      refine L_q (Q_move rfl) rfl rfl rfl ?_
      refine L_q (Q_nilCheck rfl) rfl rfl rfl ?_
      refine L_q (Q_fa0 rfl) rfl rfl rfl ?_
      refine L_q (Q_ld 0 rfl rfl rfl rfl) rfl rfl rfl ?_
      refine L_q (Q_move rfl) rfl rfl rfl ?_
      refine L_o rfl rfl rfl (O_call [1] [0,2,3] (hdel a.length (by simp)) rfl rfl ?_)
      rintro _ _ ⟨S', rfl, rfl⟩
      refine JL.norm ?_
      refine L_q (Q_nilCheck rfl) rfl rfl rfl ?_
      refine L_q (Q_fa0 rfl) rfl rfl rfl ?_
      refine L_s rfl rfl (O_st1 1 rfl rfl rfl rfl rfl ?_)
      refine JL.norm ?_
      refine JL_nil ?_
      refine seqQ_normal ?_
      refine J_seq ?_
      refine J_region ?_
      refine L_q (Q_move rfl) rfl rfl rfl ?_
      refine L_q (Q_assign rfl) rfl rfl rfl ?_
      refine JL_nil ?_
      refine seqQ_normal ?_
      refine J_ret ?_
      refine scopeQ_ret ?_
      refine retQ_ret _ [segC p size sure S', slc tPf true S' ((a ++ [(f, q)]).drop (dropN ((a ++ [(f, q)]).map (·.1)) seq)), fsC ((a ++ [(f, q)]).drop (dropN ((a ++ [(f, q)]).map (·.1)) seq))] (.cons (RV_tmp rfl) .nil) ⟨S', by rw [hg2]; rfl, rfl⟩ ?_
      rw [hg2, show (a ++ [(f, q)]).take 0 ++ (a ++ [(f, q)]).drop (a.length) = (a ++ [(f, q)]).drop (a.length) from rfl]
      have hsp : Ent (fsC (a ++ [(f, q)]) :: [segC p size sure S', slc tPf true S' ((a ++ [(f, q)]).drop (a.length)), F]) (fsC ((a ++ [(f, q)]).drop (a.length)) :: [segC p size sure S', slc tPf true S' ((a ++ [(f, q)]).drop (a.length)), F]) := by
        have e : (a ++ [(f, q)]).map fileAt = ((a ++ [(f, q)]).take (a.length)).map fileAt ++ ((a ++ [(f, q)]).drop (a.length)).map fileAt := by rw [← List.map_append, List.take_append_drop]
        unfold fsC
        rw [e]
        exact Ent.stars_drop
      exact ((Ent.re [2, 1, 0, 3] rfl).trans hsp).trans (Ent.re [1, 2, 0, 3] rfl)
    | cons r b =>
      obtain ⟨f2, q2⟩ := r
      refine J_region ?_
      refine L_q (Q_move rfl) rfl rfl rfl ?_
      refine L_q (Q_move rfl) rfl rfl rfl ?_
      refine L_q (Q_nilCheck rfl) rfl rfl rfl ?_
      refine L_q (Q_fa0 rfl) rfl rfl rfl ?_
      refine L_q (Q_ld 0 rfl rfl rfl rfl) rfl rfl rfl ?_
      refine L_q (Q_lenAt 1 rfl rfl) rfl rfl rfl ?_
      refine L_q (Q_sub rfl rfl (by first | exact IntWalk.i64_in _ (by omega) | exact IntWalk.u8_in _ (by omega) | exact IntWalk.u32_in _ (by omega) | exact IntWalk.u64_in _ (by omega) | rfl)) rfl rfl rfl ?_
      refine L_q ((Q_eql rfl rfl).as (v' := .bool false) (congrArg Value.bool (decide_eq_false (by rw [hlen]; simp only [List.length_cons]; omega)))) rfl rfl rfl ?_
      refine L_q (Q_assign rfl) rfl rfl rfl ?_
      refine JL_nil ?_
      refine seqQ_normal ?_
      refine J_condF rfl ?_
      refine J_seq ?_
      have hfn : ∀ x : Int, x = f.next → x = (f.next : Int) := fun _ h => h
      refine J.ent ((Ent.re [2, 0, 1, 3] rfl).trans (Ent.mid_out fileAt a (f, q) ((f2, q2) :: b))) ?_
      refine J_region ?_
      refine L_q (Q_move rfl) rfl rfl rfl ?_
      refine L_o rfl rfl rfl (O_call [0] [1,2,3,4] (fnext_ok E f q o3') rfl rfl ?_)
      rintro _ _ ⟨rfl, rfl⟩
      refine JL.norm ?_
      refine L_q (Q_move rfl) rfl rfl rfl ?_
      refine L_q (Q_gtr rfl rfl) rfl rfl rfl ?_
      refine L_q (Q_assign rfl) rfl rfl rfl ?_
      refine JL_nil ?_
      refine seqQ_normal ?_
      refine J.ent ((Ent.mid_in fileAt a (f, q) ((f2, q2) :: b)).trans (Ent.re [1, 2, 0, 3] rfl)) ?_
      refine J_condD rfl (fun h3 => ?_) (fun h3 => ?_)
      · have hg2 : dropN ((a ++ (f, q) :: (f2, q2) :: b).map (·.1)) seq = a.length := by
          rw [hg]
          simp only [List.map_cons, dropN]
          rw [if_neg (by omega)]; rfl
        refine J_exit ?_
        refine blockQ_miss rfl ?_
        refine seqQ_exit ?_
        refine blockQ_miss rfl ?_
        refine seqQ_exit ?_
        refine loopQ_exit ?_
        refine blockQ_hit ?_
        refine seqQ_normal ?_
        refine J_seq ?_
        refine J_region ?_
        refine L_q (Q_move rfl) rfl rfl rfl ?_
        refine L_q (Q_move rfl) rfl rfl rfl ?_
        refine L_q (Q_nilCheck rfl) rfl rfl rfl ?_
        refine L_q (Q_fa0 rfl) rfl rfl rfl ?_
        refine L_q (Q_ld 0 rfl rfl rfl rfl) rfl rfl rfl ?_
        refine L_q (Q_move rfl) rfl rfl rfl ?_
        refine L_o rfl rfl rfl (O_call [1] [0,2,3] (hdel a.length (by simp)) rfl rfl ?_)
        rintro _ _ ⟨S', rfl, rfl⟩
        refine JL.norm ?_
        refine L_q (Q_nilCheck rfl) rfl rfl rfl ?_
        refine L_q (Q_fa0 rfl) rfl rfl rfl ?_
        refine L_s rfl rfl (O_st1 1 rfl rfl rfl rfl rfl ?_)
        refine JL.norm ?_
        refine JL_nil ?_
        refine seqQ_normal ?_
        refine J_seq ?_
        refine J_region ?_
        refine L_q (Q_move rfl) rfl rfl rfl ?_
        refine L_q (Q_assign rfl) rfl rfl rfl ?_
        refine JL_nil ?_
        refine seqQ_normal ?_
        refine J_ret ?_
        refine scopeQ_ret ?_
        refine retQ_ret _ [segC p size sure S', slc tPf true S' ((a ++ (f, q) :: (f2, q2) :: b).drop (dropN ((a ++ (f, q) :: (f2, q2) :: b).map (·.1)) seq)), fsC ((a ++ (f, q) :: (f2, q2) :: b).drop (dropN ((a ++ (f, q) :: (f2, q2) :: b).map (·.1)) seq))] (.cons (RV_tmp rfl) .nil) ⟨S', by rw [hg2]; rfl, rfl⟩ ?_
        rw [hg2, show (a ++ (f, q) :: (f2, q2) :: b).take 0 ++ (a ++ (f, q) :: (f2, q2) :: b).drop (a.length) = (a ++ (f, q) :: (f2, q2) :: b).drop (a.length) from rfl]
        have hsp : Ent (fsC (a ++ (f, q) :: (f2, q2) :: b) :: [segC p size sure S', slc tPf true S' ((a ++ (f, q) :: (f2, q2) :: b).drop (a.length)), F]) (fsC ((a ++ (f, q) :: (f2, q2) :: b).drop (a.length)) :: [segC p size sure S', slc tPf true S' ((a ++ (f, q) :: (f2, q2) :: b).drop (a.length)), F]) := by
          have e : (a ++ (f, q) :: (f2, q2) :: b).map fileAt = ((a ++ (f, q) :: (f2, q2) :: b).take (a.length)).map fileAt ++ ((a ++ (f, q) :: (f2, q2) :: b).drop (a.length)).map fileAt := by rw [← List.map_append, List.take_append_drop]
          unfold fsC
          rw [e]
          exact Ent.stars_drop
        exact ((Ent.re [2, 1, 0, 3] rfl).trans hsp).trans (Ent.re [1, 2, 0, 3] rfl)
      · refine J_skip ?_
        refine blockQ_normal ?_
        refine seqQ_normal ?_
        refine J_region ?_
        refine L_q (Q_move rfl) rfl rfl rfl ?_
        refine L_q (Q_add rfl rfl (by first | exact IntWalk.i64_in _ (by omega) | exact IntWalk.u8_in _ (by omega) | exact IntWalk.u32_in _ (by omega) | exact IntWalk.u64_in _ (by omega) | rfl)) rfl rfl rfl ?_
        refine L_q (Q_assign rfl) rfl rfl rfl ?_
        refine JL_nil ?_
        refine blockQ_normal ?_
        refine seqQ_normal ?_
        refine J_region ?_
        refine L_q (Q_add rfl rfl (by first | exact IntWalk.i64_in _ (by omega) | exact IntWalk.u8_in _ (by omega) | exact IntWalk.u32_in _ (by omega) | exact IntWalk.u64_in _ (by omega) | rfl)) rfl rfl rfl ?_
        refine L_q (Q_move rfl) rfl rfl rfl ?_
        refine JL_nil ?_
        refine loopQ_normal (a.length + 1) ⟨by omega, ?_⟩ (by omega) ⟨rfl, rfl, rfl, rfl, rfl, rfl, trivial⟩ (Ent.refl _)
        rw [hg, show (a ++ (f, q) :: (f2, q2) :: b).drop (a.length + 1) = (f2, q2) :: b by simp]
        simp only [List.map_cons, dropN]
        rw [if_pos (by omega)]; omega
  · obtain rfl : k = ps.length := by omega
    have hg2 : dropN (ps.map (·.1)) seq = ps.length := by rw [hg, List.drop_length]; rfl
    refine J_exit ?_
    refine seqQ_exit ?_
    refine loopQ_exit ?_
    refine blockQ_hit ?_
    refine seqQ_normal ?_
    refine J_seq ?_
    refine J_region ?_
    refine L_q (Q_move rfl) rfl rfl rfl ?_
    refine L_q (Q_move rfl) rfl rfl rfl ?_
    refine L_q (Q_nilCheck rfl) rfl rfl rfl ?_
    refine L_q (Q_fa0 rfl) rfl rfl rfl ?_
    refine L_q (Q_ld 0 rfl rfl rfl rfl) rfl rfl rfl ?_
    refine L_q (Q_move rfl) rfl rfl rfl ?_
    refine L_o rfl rfl rfl (O_call [1] [0,2,3] (hdel ps.length (Nat.le_refl _)) rfl rfl ?_)
    rintro _ _ ⟨S', rfl, rfl⟩
    refine JL.norm ?_
    refine L_q (Q_nilCheck rfl) rfl rfl rfl ?_
    refine L_q (Q_fa0 rfl) rfl rfl rfl ?_
    refine L_s rfl rfl (O_st1 1 rfl rfl rfl rfl rfl ?_)
    refine JL.norm ?_
    refine JL_nil ?_
    refine seqQ_normal ?_
    refine J_seq ?_
    refine J_region ?_
    refine L_q (Q_move rfl) rfl rfl rfl ?_
    refine L_q (Q_assign rfl) rfl rfl rfl ?_
    refine JL_nil ?_
    refine seqQ_normal ?_
    refine J_ret ?_
    refine scopeQ_ret ?_
    refine retQ_ret _ [segC p size sure S', slc tPf true S' (ps.drop (dropN (ps.map (·.1)) seq)), fsC (ps.drop (dropN (ps.map (·.1)) seq))] (.cons (RV_tmp rfl) .nil) ⟨S', by rw [hg2]; rfl, rfl⟩ ?_
    rw [hg2, show ps.take 0 ++ ps.drop (ps.length) = ps.drop (ps.length) from rfl]
    have hsp : Ent (fsC ps :: [segC p size sure S', slc tPf true S' (ps.drop (ps.length)), F]) (fsC (ps.drop (ps.length)) :: [segC p size sure S', slc tPf true S' (ps.drop (ps.length)), F]) := by
      have e : ps.map fileAt = (ps.take (ps.length)).map fileAt ++ (ps.drop (ps.length)).map fileAt := by rw [← List.map_append, List.take_append_drop]
      unfold fsC
      rw [e]
      exact Ent.stars_drop
    exact ((Ent.re [2, 1, 0, 3] rfl).trans hsp).trans (Ent.re [1, 2, 0, 3] rfl)
end Go.Proofs
/- A log in files: an append. -/
set_option autoImplicit false
namespace Go.Proofs
open Go.SL
theorem doD_write (f : Fl) (t : List UInt8) (h : (text f.l).length + (8 + t.length) ≤ 8192) : doD f.d ⟨1, frame t, 0⟩ = ((putF f t).d, 0) := by
  unfold doD
  rw [if_pos rfl, if_neg (by have := frame_len t; simp only [Fl.d] at *; omega)]
  simp [putF, Fl.d, text_snoc]
attribute [local irreducible] J JL QOp JOp seqQ blockQ loopQ retQ slc cel hex star pur stars Does RV Ent pAt scopeQ
attribute [local irreducible] fileAt diskAt
theorem sappend_ok (E : World) (p size sure : Nat) (S : SV) (ps : List Fp) (t : List UInt8) (h64 : 64 ≤ size) (h8 : size ≤ 8192) (hps : ps.length ≤ 16) (hn : nextOf (ps.map (·.1)) ≤ 1000000) (hok : ∀ r ∈ ps, (text r.1.l).length ≤ 8192 ∧ r.1.s ≤ (text r.1.l).length) :
    Does Tryz.prog E 43 [.pointer (some ⟨p, 0, none⟩), str t] [segC p size sure S, slc tPf true S ps, fsC ps] fun v L => ∃ (S' : SV) (ps' : List Fp), v = .tuple #[.int .i64 ((appL ⟨size, sure, ps.map (·.1)⟩ t).2.1 : Int), .int .i64 (appL ⟨size, sure, ps.map (·.1)⟩ t).2.2] ∧
      ps'.map (·.1) = (appL ⟨size, sure, ps.map (·.1)⟩ t).1.fs ∧ L = [segC p size (appL ⟨size, sure, ps.map (·.1)⟩ t).1.sure S', slc tPf true S' ps', fsC ps'] := by
  obtain ⟨g, hg⟩ : ∃ g : Lg, g = ⟨size, sure, ps.map (·.1)⟩ := ⟨_, rfl⟩
  rw [← hg]
  have hgs : g.size = size := by rw [hg]
  have hgu : g.sure = sure := by rw [hg]
  have hgf : g.fs = ps.map (·.1) := by rw [hg]
  have hfr := frame_ok E t
  refine Does.of Tryz.func43 rfl Tryz.ntmps43 rfl rfl fun F => ?_
  refine J.norm ?_
  refine J_seq ?_
  refine J_region ?_
  refine L_q (Q_assign rfl) rfl rfl rfl ?_
  refine L_q (Q_assign rfl) rfl rfl rfl ?_
  refine JL_nil ?_
  refine seqQ_normal ?_
  refine J_seq ?_
  refine J_seq ?_
  refine J_region ?_
  refine L_q (Q_move rfl) rfl rfl rfl ?_
  refine L_q ((Q_peql rfl rfl).as (v' := .bool false) rfl) rfl rfl rfl ?_
  refine JL_nil ?_
  refine seqQ_normal ?_
  refine J_condF rfl ?_
  refine J_skip ?_
  refine seqQ_normal ?_
  refine J_seq ?_
  by_cases h1 : 4096 < t.length
  · rw [show frameV t = .tuple #[str [], .int .i64 2] by unfold frameV; rw [if_pos h1]] at hfr
    have e : appL g t = (g, 0, 2) := by unfold appL; rw [if_pos h1]
    rw [e]
    refine J_region ?_
    refine L_q (Q_move rfl) rfl rfl rfl ?_
    refine L_o rfl rfl rfl (O_call [] [0,1,2,3] hfr rfl rfl ?_)
    rintro _ _ ⟨rfl, rfl⟩
    refine JL.norm ?_
    refine L_q (Q_move rfl) rfl rfl rfl ?_
    refine L_q (Q_extract (v := str []) rfl rfl) rfl rfl rfl ?_
    refine L_q (Q_extract (v := .int .i64 2) rfl rfl) rfl rfl rfl ?_
    refine L_q (Q_assign rfl) rfl rfl rfl ?_
    refine L_q (Q_assign rfl) rfl rfl rfl ?_
    refine JL_nil ?_
    refine seqQ_normal ?_
    refine J_seq ?_
    refine J_block ?_
    refine J_seq ?_
    refine J_region ?_
    refine L_q (Q_move rfl) rfl rfl rfl ?_
    refine L_q ((Q_neq rfl rfl).as (v' := .bool true) rfl) rfl rfl rfl ?_
    refine L_q (Q_assign rfl) rfl rfl rfl ?_
    refine JL_nil ?_
    refine seqQ_normal ?_
    refine J_condT rfl ?_
    refine J_seq ?_
    refine J_region ?_
    refine L_q (Q_move rfl) rfl rfl rfl ?_
    refine L_q (Q_assign rfl) rfl rfl rfl ?_
    refine L_q (Q_assign rfl) rfl rfl rfl ?_
    refine JL_nil ?_
    refine seqQ_normal ?_
    refine J_ret ?_
    refine blockQ_ret ?_
    refine seqQ_ret ?_
    exact retQ_ret _ _ (.cons (RV_tmp rfl) (.cons (RV_tmp rfl) .nil)) ⟨S, ps, rfl, hgf.symm, by rw [hgu]⟩ (Ent.refl _)
  rw [show frameV t = .tuple #[str (frame t), .int .i64 0] by unfold frameV; rw [if_neg h1]] at hfr
  have hfl := frame_len t
  refine J_region ?_
  refine L_q (Q_move rfl) rfl rfl rfl ?_
  refine L_o rfl rfl rfl (O_call [] [0,1,2,3] hfr rfl rfl ?_)
  rintro _ _ ⟨rfl, rfl⟩
  refine JL.norm ?_
  refine L_q (Q_move rfl) rfl rfl rfl ?_
  refine L_q (Q_extract (v := str (frame t)) rfl rfl) rfl rfl rfl ?_
  refine L_q (Q_extract (v := .int .i64 0) rfl rfl) rfl rfl rfl ?_
  refine L_q (Q_assign rfl) rfl rfl rfl ?_
  refine L_q (Q_assign rfl) rfl rfl rfl ?_
  refine JL_nil ?_
  refine seqQ_normal ?_
  refine J_seq ?_
  refine J_block ?_
  refine J_seq ?_
  refine J_region ?_
  refine L_q (Q_move rfl) rfl rfl rfl ?_
  refine L_q ((Q_neq rfl rfl).as (v' := .bool false) rfl) rfl rfl rfl ?_
  refine L_q (Q_assign rfl) rfl rfl rfl ?_
  refine JL_nil ?_
  refine seqQ_normal ?_
  refine J_condF rfl ?_
  refine J_seq ?_
  by_cases h2 : size < 8 + t.length
  · have e : appL g t = (g, 0, 2) := by unfold appL; rw [if_neg h1, if_pos (by omega)]
    rw [e]
    refine J_region ?_
    refine L_q (Q_move rfl) rfl rfl rfl ?_
    refine L_q (Q_slen rfl) rfl rfl rfl ?_
    refine L_q (Q_move rfl) rfl rfl rfl ?_
    refine L_q (Q_nilCheck rfl) rfl rfl rfl ?_
    refine L_q (Q_fa0 rfl) rfl rfl rfl ?_
    refine L_q (Q_ld 0 rfl rfl rfl rfl) rfl rfl rfl ?_
    refine L_q ((Q_gtr rfl rfl).as (v' := .bool true) (congrArg Value.bool (decide_eq_true (by rw [hfl]; omega)))) rfl rfl rfl ?_
    refine L_q (Q_assign rfl) rfl rfl rfl ?_
    refine JL_nil ?_
    refine seqQ_normal ?_
    refine J_condT rfl ?_
    refine J_seq ?_
    refine J_region ?_
    refine L_q (Q_assign rfl) rfl rfl rfl ?_
    refine L_q (Q_assign rfl) rfl rfl rfl ?_
    refine JL_nil ?_
    refine seqQ_normal ?_
    refine J_ret ?_
    refine blockQ_ret ?_
    refine seqQ_ret ?_
    exact retQ_ret _ _ (.cons (RV_tmp rfl) (.cons (RV_tmp rfl) .nil)) ⟨S, ps, rfl, hgf.symm, by rw [hgu]⟩ (Ent.refl _)
  refine J_region ?_
  refine L_q (Q_move rfl) rfl rfl rfl ?_
  refine L_q (Q_slen rfl) rfl rfl rfl ?_
  refine L_q (Q_move rfl) rfl rfl rfl ?_
  refine L_q (Q_nilCheck rfl) rfl rfl rfl ?_
  refine L_q (Q_fa0 rfl) rfl rfl rfl ?_
  refine L_q (Q_ld 0 rfl rfl rfl rfl) rfl rfl rfl ?_
  refine L_q ((Q_gtr rfl rfl).as (v' := .bool false) (congrArg Value.bool (decide_eq_false (by rw [hfl]; omega)))) rfl rfl rfl ?_
  refine L_q (Q_assign rfl) rfl rfl rfl ?_
  refine JL_nil ?_
  refine seqQ_normal ?_
  refine J_condF rfl ?_
  refine J_seq ?_
  have hroom := room_ok E p size sure (8 + t.length) S ps hps (by omega) h8
  rw [← hg, ← hfl] at hroom
  rw [hfl] at hroom
  cases hb : roomB g (8 + t.length) with
  | true =>
    rw [hb] at hroom
    rcases last_cases ps with rfl | ⟨a, ⟨f, q⟩, rfl⟩
    · rw [hg] at hb; cases hb
    have hfit : (text f.l).length + (8 + t.length) ≤ size := by
      rw [hg] at hb; simpa [roomB] using hb
    have e : appL g t = (⟨size, sure, (a ++ [(putF f t, q)]).map (·.1)⟩, f.next, 0) := by
      unfold appL
      rw [if_neg h1, if_neg (by omega), if_pos hb, hgf, hgs, hgu]
      simp only [List.map_append, List.map_cons, List.map_nil, onLast_snoc, nextOf_snoc]
    rw [e]
    rw [List.map_append, List.map_cons, List.map_nil, nextOf_snoc] at hn
    have hfn : f.next ≤ 10000000 := Nat.le_trans hn (by decide)
    have hdw := doD_write f t (by omega)
    have hk2 := hok (f, q) (by simp)
    have hdo := fun dp => do_ok E dp f.d ⟨1, frame t, 0⟩ (Nat.two_pow_pos 64) ⟨hk2.2, Nat.le_trans hk2.1 (by decide)⟩
    rw [hdw] at hdo
    dsimp only at hdo
    have hel : (ends f.l).length ≤ 8192 := by rw [ends_len]; have := text_len f.l; omega
    have hlast := last_ok E p size sure S (a ++ [(f, q)]) hps
    rw [lastP_snoc] at hlast
    refine J_region ?_
    refine L_q (Q_move rfl) rfl rfl rfl ?_
    refine L_q (Q_move rfl) rfl rfl rfl ?_
    refine L_q ((Q_slen rfl).as (v' := .int .i64 ((8 + t.length : Nat) : Int)) (by rw [hfl])) rfl rfl rfl ?_
    refine L_o rfl rfl rfl (O_call [0,1,2] [3] hroom rfl rfl ?_)
    rintro _ _ ⟨rfl, rfl⟩
    refine JL.norm ?_
    refine L_q (Q_assign rfl) rfl rfl rfl ?_
    refine JL_nil ?_
    refine seqQ_normal ?_
    refine J_condT rfl ?_
    refine J_skip ?_
    refine blockQ_normal ?_
    refine seqQ_normal ?_
    refine J_seq ?_
    refine J_region ?_
    refine L_q (Q_move rfl) rfl rfl rfl ?_
    refine L_o rfl rfl rfl (O_call [0,1] [2,3] (hlast) rfl rfl ?_)
    rintro _ _ ⟨rfl, rfl⟩
    refine JL.norm ?_
    refine L_q (Q_assign rfl) rfl rfl rfl ?_
    refine JL_nil ?_
    refine seqQ_normal ?_
    refine J_seq ?_
    refine J.ent ((Ent.re [2, 0, 1, 3] rfl).trans (Ent.last_out fileAt a (f, q))) ?_
    refine J_region ?_
    refine L_q (Q_move rfl) rfl rfl rfl ?_
    refine L_o rfl rfl rfl (O_call [0] [1,2,3,4] (fnext_ok E f q hfn) rfl rfl ?_)
    rintro _ _ ⟨rfl, rfl⟩
    refine JL.norm ?_
    refine L_q (Q_assign rfl) rfl rfl rfl ?_
    refine JL_nil ?_
    refine seqQ_normal ?_
    refine J_seq ?_
    refine J_file fun S4 dp4 => ?_
    refine J_region ?_
    refine L_q (Q_move rfl) rfl rfl rfl ?_
    refine L_q (Q_nilCheck rfl) rfl rfl rfl ?_
    refine L_q (Q_fa0 rfl) rfl rfl rfl ?_
    refine L_q (Q_ld 0 rfl rfl rfl rfl) rfl rfl rfl ?_
    refine L_q (Q_move rfl) rfl rfl rfl ?_
    refine L_q (Q_build rfl) rfl rfl rfl ?_
    refine L_o rfl rfl rfl (O_call [2] [0,1,3,4,5,6] (hdo dp4) rfl rfl ?_)
    rintro _ _ ⟨rfl, rfl⟩
    refine JL.norm ?_
    refine JL_nil ?_
    refine seqQ_normal ?_
    refine J_seq ?_
    refine J_drawH [1] [0, 1, 2, 3, 4, 5, 6, 7, 8, 10, 13, 14] (.quiet 0 (.quiet 1 (.quiet 2 (.quiet 3 (.quiet 4 (.quiet 5 (.quiet 6 (.quiet 7 (.quiet 8 (.loud 9 (.quiet 10 (.loud 11 (.loud 12 (.quiet 13 (.quiet 14 (.loud 15 .done)))))))))))))))) Tryz.mixed (by kernel_rfl) (by kernel_rfl) (by repeat (first | exact retQ_noP | refine seqQ_noP ?_ | refine blockQ_noP ?_ | refine loopQ_noP ?_ | refine scopeQ_noP ?_ | (intro _ _ _ h; cases h.1))) ?_
    refine S_q (Ent.re [1] rfl) rfl (Q_move rfl) rfl rfl rfl ?_
    refine S_q (Ent.re [1] rfl) rfl (Q_move rfl) rfl rfl rfl ?_
    refine S_q (Ent.re [1] rfl) rfl (Q_nilCheck rfl) rfl rfl rfl ?_
    refine S_q (Ent.re [1] rfl) rfl (Q_fa0 rfl) rfl rfl rfl ?_
    refine S_q (Ent.re [1] rfl) rfl (Q_ld 0 rfl rfl rfl rfl) rfl rfl rfl ?_
    refine S_q (Ent.re [1] rfl) rfl (Q_move rfl) rfl rfl rfl ?_
    refine S_q (Ent.re [1] rfl) rfl (Q_nilCheck rfl) rfl rfl rfl ?_
    refine S_q (Ent.re [1] rfl) rfl (Q_fa0 rfl) rfl rfl rfl ?_
    refine S_q (Ent.re [1] rfl) rfl (Q_ld 0 rfl rfl rfl rfl) rfl rfl rfl ?_
    refine S_o rfl rfl rfl rfl (O_call [0] [1,2,3,4,5,6] (text_ok E dp4 (putF f t).d) rfl rfl ?_)
    (rintro _ _ ⟨rfl, rfl⟩; refine ⟨_, fun _ => ⟨Ent.reN [1] rfl, Ent.refl _⟩, ?_⟩)
    refine JS.norm ?_
    refine S_q (Ent.re [1] rfl) rfl (Q_slen rfl) rfl rfl rfl ?_
    refine S_o rfl rfl rfl rfl (O_litP (τ := tI) (m := 1) (sz := 1) [(text (f.l ++ [t])).length] rfl rfl rfl rfl rfl rfl (by decide) (fun S5 => ⟨_, fun _ => ⟨Ent.reN [2] rfl, Ent.refl _⟩, ?_⟩))
    refine JS.norm ?_
    refine S_o rfl rfl rfl rfl (O_app (τ := tI) 3 rfl (fun w h => h.rd 0 rfl) rfl rfl rfl rfl (by simp only [List.length_singleton]; omega) (by decide) (fun S6 => ⟨_, fun _ => ⟨Ent.reN [2] rfl, Ent.refl _⟩, ?_⟩))
    refine JS.norm ?_
    refine S_q (Ent.re [2] rfl) rfl (Q_nilCheck rfl) rfl rfl rfl ?_
    refine S_q (Ent.re [2] rfl) rfl (Q_fa0 rfl) rfl rfl rfl ?_
    refine S_s rfl rfl rfl (O_st1 2 rfl rfl rfl rfl rfl ⟨[], free_no (by kernel_rfl), ?_⟩)
    refine JS.norm ?_
    refine S_nil ?_
    refine seqQ_normal ?_
    refine J_seq ?_
    refine J_region ?_
    refine L_q (Q_move rfl) rfl rfl rfl ?_
    refine L_q (Q_assign rfl) rfl rfl rfl ?_
    refine L_q (Q_assign rfl) rfl rfl rfl ?_
    refine JL_nil ?_
    refine seqQ_normal ?_
    refine J_ret ?_
    rw [← ends_snoc]
    refine retQ_ret _ _ (.cons (RV_tmp rfl) (.cons (RV_tmp rfl) .nil)) ⟨S, a ++ [(putF f t, q)], rfl, rfl, rfl⟩ ?_
    rw [slc_onP a f (putF f t) q]
    exact ((Ent.re [2, 3, 1, 4, 5, 6, 7] rfl).trans (fileAt_mk (f := putF f t) rfl rfl rfl rfl)).trans ((Ent.last_in fileAt a (putF f t, q)).trans (Ent.re [1, 2, 0, 3] rfl))
  | false =>
    rw [hb] at hroom
    refine J_region ?_
    refine L_q (Q_move rfl) rfl rfl rfl ?_
    refine L_q (Q_move rfl) rfl rfl rfl ?_
    refine L_q ((Q_slen rfl).as (v' := .int .i64 ((8 + t.length : Nat) : Int)) (by rw [hfl])) rfl rfl rfl ?_
    refine L_o rfl rfl rfl (O_call [0,1,2] [3] hroom rfl rfl ?_)
    rintro _ _ ⟨rfl, rfl⟩
    refine JL.norm ?_
    refine L_q (Q_assign rfl) rfl rfl rfl ?_
    refine JL_nil ?_
    refine seqQ_normal ?_
    refine J_condF rfl ?_
    refine J_seq ?_
    by_cases h3 : 16 ≤ ps.length
    · have e : appL g t = (g, 0, 7) := by unfold appL; rw [if_neg h1, if_neg (by omega), if_neg (by rw [hb]; simp), if_pos (by rw [hgf, List.length_map]; exact h3)]
      rw [e]
      refine J_region ?_
      refine L_q (Q_move rfl) rfl rfl rfl ?_
      refine L_q (Q_nilCheck rfl) rfl rfl rfl ?_
      refine L_q (Q_fa0 rfl) rfl rfl rfl ?_
      refine L_q (Q_ld 0 rfl rfl rfl rfl) rfl rfl rfl ?_
      refine L_q (Q_lenAt 1 rfl rfl) rfl rfl rfl ?_
      refine L_q ((Q_geq rfl rfl).as (v' := .bool true) (congrArg Value.bool (decide_eq_true (by omega)))) rfl rfl rfl ?_
      refine L_q (Q_assign rfl) rfl rfl rfl ?_
      refine JL_nil ?_
      refine seqQ_normal ?_
      refine J_condT rfl ?_
      refine J_seq ?_
      refine J_region ?_
      refine L_q (Q_assign rfl) rfl rfl rfl ?_
      refine L_q (Q_assign rfl) rfl rfl rfl ?_
      refine JL_nil ?_
      refine seqQ_normal ?_
      refine J_ret ?_
      refine blockQ_ret ?_
      refine seqQ_ret ?_
      exact retQ_ret _ _ (.cons (RV_tmp rfl) (.cons (RV_tmp rfl) .nil)) ⟨S, ps, rfl, hgf.symm, by rw [hgu]⟩ (Ent.refl _)
    obtain ⟨n0, hn0⟩ : ∃ n0, n0 = nextOf (ps.map (·.1)) := ⟨_, rfl⟩
    obtain ⟨qs, hqs⟩ : ∃ qs, qs = onP ps syncF := ⟨_, rfl⟩
    obtain ⟨su, hsu⟩ : ∃ su, su = if ps = [] then sure else nextOf (ps.map (·.1)) := ⟨_, rfl⟩
    have hql : qs.length = ps.length := by rw [hqs, onP_len]
    have e : appL g t = (⟨size, su, qs.map (·.1) ++ [putF ⟨n0, [], 0⟩ t]⟩, n0, 0) := by
      unfold appL
      rw [if_neg h1, if_neg (by omega), if_neg (by rw [hb]; simp), if_neg (by rw [hgf, List.length_map]; exact h3)]
      have e1 : (syncL g).fs = qs.map (·.1) := by rw [hqs, onP_fst, ← hgf]; rfl
      have e2 : (syncL g).sure = su := by
        rw [hsu, hg]; simp only [syncL, List.map_eq_nil_iff]
      rw [e1, e2, hgs, hgf, ← hn0]
      simp [putF]
    rw [e]
    have hnx := snext_ok E p size sure S ps hps (Nat.le_trans hn (by decide))
    have hsy := sync_ok E p size sure S ps hps (Nat.le_trans hn (by decide)) hok
    rw [← hn0] at hnx
    rw [← hsu, ← hqs] at hsy
    refine J_region ?_
    refine L_q (Q_move rfl) rfl rfl rfl ?_
    refine L_q (Q_nilCheck rfl) rfl rfl rfl ?_
    refine L_q (Q_fa0 rfl) rfl rfl rfl ?_
    refine L_q (Q_ld 0 rfl rfl rfl rfl) rfl rfl rfl ?_
    refine L_q (Q_lenAt 1 rfl rfl) rfl rfl rfl ?_
    refine L_q ((Q_geq rfl rfl).as (v' := .bool false) (congrArg Value.bool (decide_eq_false (by omega)))) rfl rfl rfl ?_
    refine L_q (Q_assign rfl) rfl rfl rfl ?_
    refine JL_nil ?_
    refine seqQ_normal ?_
    refine J_condF rfl ?_
    refine J_seq ?_
    refine J_region ?_
    refine L_q (Q_move rfl) rfl rfl rfl ?_
    refine L_o rfl rfl rfl (O_call [0,1,2] [3] hnx rfl rfl ?_)
    rintro _ _ ⟨rfl, rfl⟩
    refine JL.norm ?_
    refine L_q (Q_assign rfl) rfl rfl rfl ?_
    refine JL_nil ?_
    refine seqQ_normal ?_
    refine J_seq ?_
    refine J_region ?_
    refine L_q (Q_move rfl) rfl rfl rfl ?_
    refine L_o rfl rfl rfl (O_call [0,1,2] [3] hsy rfl rfl ?_)
    rintro _ _ ⟨rfl, rfl⟩
    refine JL.norm ?_
    refine JL_nil ?_
    refine seqQ_normal ?_
    refine J_drawH [0] [0, 1, 2, 3, 4, 5, 7, 11, 12] (.quiet 0 (.quiet 1 (.quiet 2 (.quiet 3 (.quiet 4 (.quiet 5 (.loud 6 (.quiet 7 (.loud 8 (.loud 9 (.loud 10 (.quiet 11 (.quiet 12 (.loud 13 .done)))))))))))))) Tryz.mixed (by kernel_rfl) (by kernel_rfl) (by repeat (first | exact retQ_noP | refine seqQ_noP ?_ | refine blockQ_noP ?_ | refine loopQ_noP ?_ | refine scopeQ_noP ?_ | (intro _ _ _ h; cases h.1))) ?_
    refine S_q (Ent.re [0] rfl) rfl (Q_move rfl) rfl rfl rfl ?_
    refine S_q (Ent.re [0] rfl) rfl (Q_move rfl) rfl rfl rfl ?_
    refine S_q (Ent.re [0] rfl) rfl (Q_nilCheck rfl) rfl rfl rfl ?_
    refine S_q (Ent.re [0] rfl) rfl (Q_fa0 rfl) rfl rfl rfl ?_
    refine S_q (Ent.re [0] rfl) rfl (Q_ld 0 rfl rfl rfl rfl) rfl rfl rfl ?_
    refine S_q (Ent.re [0] rfl) rfl (Q_move rfl) rfl rfl rfl ?_
    refine S_o rfl rfl rfl rfl (O_call [] [0,1,2,3] (new_ok E) rfl rfl ?_)
    (rintro _ _ ⟨dp, rfl, rfl⟩; refine ⟨_, fun _ => ⟨Ent.reN [1] rfl, Ent.refl _⟩, ?_⟩)
    refine JS.norm ?_
    refine S_q (Ent.re [1] rfl) rfl (Q_build rfl) rfl rfl rfl ?_
    refine S_o rfl rfl rfl rfl (O_box rfl fun b30 => ⟨_, fun _ => ⟨Ent.reN [2] rfl, Ent.refl _⟩, ?_⟩)
    refine JS.norm ?_
    refine S_o rfl rfl rfl rfl (O_litP (τ := tPf) (m := 1) (sz := 1) [(⟨n0, [], 0⟩, b30)] rfl rfl rfl rfl rfl rfl (by decide) (fun S1 => ⟨_, fun _ => ⟨Ent.reN [3] rfl, Ent.refl _⟩, ?_⟩))
    refine JS.norm ?_
    refine S_o rfl rfl rfl rfl (O_app (τ := tPf) 4 rfl (fun w h => h.rd 0 rfl) rfl rfl rfl rfl (by simp only [List.length_singleton]; omega) (by decide) (fun S2 => ⟨_, fun _ => ⟨Ent.reN [3] rfl, Ent.refl _⟩, ?_⟩))
    refine JS.norm ?_
    refine S_q (Ent.re [3] rfl) rfl (Q_nilCheck rfl) rfl rfl rfl ?_
    refine S_q (Ent.re [3] rfl) rfl (Q_fa0 rfl) rfl rfl rfl ?_
    refine S_s rfl rfl rfl (O_st1 3 rfl rfl rfl rfl rfl ⟨[], free_no (by kernel_rfl), ?_⟩)
    refine JS.norm ?_
    refine S_nil ?_
    refine blockQ_normal ?_
    refine seqQ_normal ?_
    refine J_seq ?_
    refine J.ent (L' := [segC p size su S2, slc tPf true S2 (qs ++ [(⟨n0, [], 0⟩, b30)]), fsC (qs ++ [(⟨n0, [], 0⟩, b30)]), F]) ?_ ?_
    · refine (Ent.mk fun _ _ h => (h.lay_nil tI true : Sat _ _ (slc tI true SV.nil [] :: _))).trans ?_
      refine (Ent.re [2, 0, 3, 6, 4, 5, 7] rfl).trans ?_
      refine (fileAt_mk (f := ⟨n0, [], 0⟩) (q := b30) (S := SV.nil) (dp := dp) (fi := n0) (es := []) (d := ⟨[], 0⟩) rfl rfl rfl rfl).trans ?_
      exact (Ent.last_in fileAt qs (⟨n0, [], 0⟩, b30)).trans (Ent.re [1, 2, 0, 3] rfl)
    have hfn : (⟨n0, [], 0⟩ : Fl).next ≤ 10000000 := by simp only [Fl.next, List.length_nil]; omega
    have hdw := doD_write ⟨n0, [], 0⟩ t (by simp [text]; omega)
    have hdo := fun dp => do_ok E dp (⟨n0, [], 0⟩ : Fl).d ⟨1, frame t, 0⟩ (Nat.two_pow_pos 64) ⟨Nat.le_refl _, by simp [Fl.d, text]⟩
    rw [hdw] at hdo
    dsimp only at hdo
    have hel : (ends ([] : List (List UInt8))).length ≤ 8192 := by simp [ends]
    have hlast := last_ok E p size su S2 (qs ++ [(⟨n0, [], 0⟩, b30)]) (by simp; omega)
    rw [lastP_snoc] at hlast
    refine J_region ?_
    refine L_q (Q_move rfl) rfl rfl rfl ?_
    refine L_o rfl rfl rfl (O_call [0,1] [2,3] (hlast) rfl rfl ?_)
    rintro _ _ ⟨rfl, rfl⟩
    refine JL.norm ?_
    refine L_q (Q_assign rfl) rfl rfl rfl ?_
    refine JL_nil ?_
    refine seqQ_normal ?_
    refine J_seq ?_
    refine J.ent ((Ent.re [2, 0, 1, 3] rfl).trans (Ent.last_out fileAt qs (⟨n0, [], 0⟩, b30))) ?_
    refine J_region ?_
    refine L_q (Q_move rfl) rfl rfl rfl ?_
    refine L_o rfl rfl rfl (O_call [0] [1,2,3,4] (fnext_ok E ⟨n0, [], 0⟩ b30 hfn) rfl rfl ?_)
    rintro _ _ ⟨rfl, rfl⟩
    refine JL.norm ?_
    refine L_q (Q_assign rfl) rfl rfl rfl ?_
    refine JL_nil ?_
    refine seqQ_normal ?_
    refine J_seq ?_
    refine J_file fun S4 dp4 => ?_
    refine J_region ?_
    refine L_q (Q_move rfl) rfl rfl rfl ?_
    refine L_q (Q_nilCheck rfl) rfl rfl rfl ?_
    refine L_q (Q_fa0 rfl) rfl rfl rfl ?_
    refine L_q (Q_ld 0 rfl rfl rfl rfl) rfl rfl rfl ?_
    refine L_q (Q_move rfl) rfl rfl rfl ?_
    refine L_q (Q_build rfl) rfl rfl rfl ?_
    refine L_o rfl rfl rfl (O_call [2] [0,1,3,4,5,6] (hdo dp4) rfl rfl ?_)
    rintro _ _ ⟨rfl, rfl⟩
    refine JL.norm ?_
    refine JL_nil ?_
    refine seqQ_normal ?_
    refine J_seq ?_
    refine J_drawH [1] [0, 1, 2, 3, 4, 5, 6, 7, 8, 10, 13, 14] (.quiet 0 (.quiet 1 (.quiet 2 (.quiet 3 (.quiet 4 (.quiet 5 (.quiet 6 (.quiet 7 (.quiet 8 (.loud 9 (.quiet 10 (.loud 11 (.loud 12 (.quiet 13 (.quiet 14 (.loud 15 .done)))))))))))))))) Tryz.mixed (by kernel_rfl) (by kernel_rfl) (by repeat (first | exact retQ_noP | refine seqQ_noP ?_ | refine blockQ_noP ?_ | refine loopQ_noP ?_ | refine scopeQ_noP ?_ | (intro _ _ _ h; cases h.1))) ?_
    refine S_q (Ent.re [1] rfl) rfl (Q_move rfl) rfl rfl rfl ?_
    refine S_q (Ent.re [1] rfl) rfl (Q_move rfl) rfl rfl rfl ?_
    refine S_q (Ent.re [1] rfl) rfl (Q_nilCheck rfl) rfl rfl rfl ?_
    refine S_q (Ent.re [1] rfl) rfl (Q_fa0 rfl) rfl rfl rfl ?_
    refine S_q (Ent.re [1] rfl) rfl (Q_ld 0 rfl rfl rfl rfl) rfl rfl rfl ?_
    refine S_q (Ent.re [1] rfl) rfl (Q_move rfl) rfl rfl rfl ?_
    refine S_q (Ent.re [1] rfl) rfl (Q_nilCheck rfl) rfl rfl rfl ?_
    refine S_q (Ent.re [1] rfl) rfl (Q_fa0 rfl) rfl rfl rfl ?_
    refine S_q (Ent.re [1] rfl) rfl (Q_ld 0 rfl rfl rfl rfl) rfl rfl rfl ?_
    refine S_o rfl rfl rfl rfl (O_call [0] [1,2,3,4,5,6] (text_ok E dp4 (putF ⟨n0, [], 0⟩ t).d) rfl rfl ?_)
    (rintro _ _ ⟨rfl, rfl⟩; refine ⟨_, fun _ => ⟨Ent.reN [1] rfl, Ent.refl _⟩, ?_⟩)
    refine JS.norm ?_
    refine S_q (Ent.re [1] rfl) rfl (Q_slen rfl) rfl rfl rfl ?_
    refine S_o rfl rfl rfl rfl (O_litP (τ := tI) (m := 1) (sz := 1) [(text (([] : List (List UInt8)) ++ [t])).length] rfl rfl rfl rfl rfl rfl (by decide) (fun S5 => ⟨_, fun _ => ⟨Ent.reN [2] rfl, Ent.refl _⟩, ?_⟩))
    refine JS.norm ?_
    refine S_o rfl rfl rfl rfl (O_app (τ := tI) 3 rfl (fun w h => h.rd 0 rfl) rfl rfl rfl rfl (by simp only [List.length_singleton]; omega) (by decide) (fun S6 => ⟨_, fun _ => ⟨Ent.reN [2] rfl, Ent.refl _⟩, ?_⟩))
    refine JS.norm ?_
    refine S_q (Ent.re [2] rfl) rfl (Q_nilCheck rfl) rfl rfl rfl ?_
    refine S_q (Ent.re [2] rfl) rfl (Q_fa0 rfl) rfl rfl rfl ?_
    refine S_s rfl rfl rfl (O_st1 2 rfl rfl rfl rfl rfl ⟨[], free_no (by kernel_rfl), ?_⟩)
    refine JS.norm ?_
    refine S_nil ?_
    refine seqQ_normal ?_
    refine J_seq ?_
    refine J_region ?_
    refine L_q (Q_move rfl) rfl rfl rfl ?_
    refine L_q (Q_assign rfl) rfl rfl rfl ?_
    refine L_q (Q_assign rfl) rfl rfl rfl ?_
    refine JL_nil ?_
    refine seqQ_normal ?_
    refine J_ret ?_
    rw [← ends_snoc]
    refine retQ_ret _ _ (.cons (RV_tmp rfl) (.cons (RV_tmp rfl) .nil)) ⟨S2, qs ++ [(putF ⟨n0, [], 0⟩ t, b30)], rfl, by simp, rfl⟩ ?_
    rw [slc_onP qs ⟨n0, [], 0⟩ (putF ⟨n0, [], 0⟩ t) b30]
    exact ((Ent.re [2, 3, 1, 4, 5, 6, 7] rfl).trans (fileAt_mk (f := putF ⟨n0, [], 0⟩ t) rfl rfl rfl rfl)).trans ((Ent.last_in fileAt qs (putF ⟨n0, [], 0⟩ t, b30)).trans (Ent.re [1, 2, 0, 3] rfl))
end Go.Proofs
/- A log in files: what each function does to the whole. -/
set_option autoImplicit false
namespace Go.Proofs
open Go.SL
def newSize (z : Int) : Nat := (min (max z 64) 8192).toNat
theorem newSize_eq (z : Int) : min (max z 64) 8192 = ((newSize z : Nat) : Int) := by unfold newSize; omega
theorem good_new (z : Int) : Good ⟨newSize z, 0, []⟩ 0 := ⟨by simp only [newSize]; omega, by simp, by simp, trivial, Nat.le_refl _⟩
theorem appL_size (g : Lg) (t : List UInt8) : (appL g t).1.size = g.size := by unfold appL; repeat' split
                                                                               all_goals rfl
attribute [local irreducible] J JL QOp JOp seqQ blockQ loopQ retQ slc cel hex star pur stars Does RV Ent pAt scopeQ
attribute [local irreducible] fileAt diskAt
theorem segnew_ok (E : World) (z : Int) : Does Tryz.prog E 21 [.int .i64 z] [] fun v L => ∃ p, v = .pointer (some ⟨p, 0, none⟩) ∧ L = [segC p (newSize z) 0 SV.nil, slc tPf true SV.nil [], fsC []] := by
  refine Does.of Tryz.func21 rfl Tryz.ntmps21 rfl rfl fun F => ?_
  refine J.norm ?_
  refine J_seq ?_
  refine J_region ?_
  refine L_q (Q_assign rfl) rfl rfl rfl ?_
  refine JL_nil ?_
  refine seqQ_normal ?_
  refine J_seq ?_
  refine J_region ?_
  refine L_q (Q_move rfl) rfl rfl rfl ?_
  refine L_q (Q_max2 rfl rfl) rfl rfl rfl ?_
  refine L_q ((Q_min2 rfl rfl).as (congrArg (Value.int .i64) (newSize_eq z))) rfl rfl rfl ?_
  refine L_q (Q_build rfl) rfl rfl rfl ?_
  refine L_o rfl rfl rfl (O_box rfl fun b7 => ?_)
  refine L_q (Q_assign rfl) rfl rfl rfl ?_
  refine JL_nil ?_
  refine seqQ_normal ?_
  refine J_ret ?_
  refine retQ_ret _ [segC b7 (newSize z) 0 SV.nil, slc tPf true SV.nil [], fsC []] (.cons (RV_tmp rfl) .nil) ⟨b7, rfl, rfl⟩ ?_
  refine (Ent.mk fun _ _ h => (h.lay_nil tPf true : Sat _ _ (slc tPf true SV.nil [] :: _))).trans ?_
  exact (Ent.stars_nil (L := _)).trans (Ent.re [2, 1, 0, 3] rfl)
section
variable (E : World) (p : Nat) (g : Lg) (S : SV) (ps : List Fp) (c : Nat)
theorem append_g (t : List UInt8) (h : Good g c) (hc : c ≤ 1000000) (hf : ps.map (·.1) = g.fs) : Does Tryz.prog E 43 [.pointer (some ⟨p, 0, none⟩), str t] [segC p g.size g.sure S, slc tPf true S ps, fsC ps] fun v L => ∃ (S' : SV) (ps' : List Fp), v = .tuple #[.int .i64 ((appL g t).2.1 : Int), .int .i64 (appL g t).2.2] ∧
      ps'.map (·.1) = (appL g t).1.fs ∧ L = [segC p (appL g t).1.size (appL g t).1.sure S', slc tPf true S' ps', fsC ps'] := by
  have h1 := sappend_ok E p g.size g.sure S ps t h.size.1 h.size.2 (by have := h.few; rw [← hf] at this; simpa using this) (by rw [hf]; exact Nat.le_trans h.next hc) (fun r hr => by
    have := h.file r.1 (by rw [← hf]; exact List.mem_map_of_mem hr); exact ⟨this.1, this.2.1⟩)
  rw [hf] at h1
  rw [appL_size]
  exact h1
theorem sync_g (h : Good g c) (hc : c ≤ 1000000) (hf : ps.map (·.1) = g.fs) : Does Tryz.prog E 27 [.pointer (some ⟨p, 0, none⟩)] [segC p g.size g.sure S, slc tPf true S ps, fsC ps] fun v L => ∃ (ps' : List Fp), v = .tuple #[] ∧
      ps'.map (·.1) = (syncL g).fs ∧ L = [segC p (syncL g).size (syncL g).sure S, slc tPf true S ps', fsC ps'] := by
  have h1 := sync_ok E p g.size g.sure S ps (by have := h.few; rw [← hf] at this; simpa using this) (by rw [hf]; exact Nat.le_trans h.next (by omega)) (fun r hr => by
    have := h.file r.1 (by rw [← hf]; exact List.mem_map_of_mem hr); exact ⟨this.1, this.2.1⟩)
  refine h1.mono fun v L hv => ⟨onP ps syncF, hv.1, by rw [onP_fst, hf]; rfl, ?_⟩
  rw [hv.2, hf]
  have e : (ps = []) = (g.fs = []) := by rw [← hf]; simp
  simp only [syncL, e]
theorem crash_g (keep : Nat) (hk : keep < 2 ^ 64) (h : Good g c) (hc : c ≤ 1000000) (hf : ps.map (·.1) = g.fs) : Does Tryz.prog E 36 [.pointer (some ⟨p, 0, none⟩), .int .u64 (keep : Int)] [segC p g.size g.sure S, slc tPf true S ps, fsC ps] fun v L => ∃ (ps' : List Fp), v = .tuple #[] ∧
      ps'.map (·.1) = (crashL g keep).fs ∧ L = [segC p (crashL g keep).size (crashL g keep).sure S, slc tPf true S ps', fsC ps'] := by
  have hcr := (h.crash (keep := keep)).next
  have h1 := crash_ok E p g.size g.sure keep S ps hk (by have := h.few; rw [← hf] at this; simpa using this) (by rw [hf]; exact Nat.le_trans hcr (by omega)) (fun r hr => by
    have := h.file r.1 (by rw [← hf]; exact List.mem_map_of_mem hr); exact ⟨this.1, this.2.1⟩)
  refine h1.mono fun v L hv => ⟨onP ps fun f => crashF f keep, hv.1, by rw [onP_fst, hf]; rfl, ?_⟩
  rw [hv.2, hf]
  have e : (ps = []) = (g.fs = []) := by rw [← hf]; simp
  simp only [crashL, e]
theorem drop_g (seq : Int) (h : Good g c) (hc : c ≤ 1000000) (hf : ps.map (·.1) = g.fs) : Does Tryz.prog E 34 [.pointer (some ⟨p, 0, none⟩), .int .i64 seq] [segC p g.size g.sure S, slc tPf true S ps, fsC ps] fun v L => ∃ (S' : SV) (ps' : List Fp), v = .int .i64 ((dropL g seq).2 : Int) ∧
      ps'.map (·.1) = (dropL g seq).1.fs ∧ L = [segC p (dropL g seq).1.size (dropL g seq).1.sure S', slc tPf true S' ps', fsC ps'] := by
  have h1 := sdrop_ok E p g.size g.sure S ps seq (by have := h.few; rw [← hf] at this; simpa using this) (fun r hr => by
    have := h.file r.1 (by rw [← hf]; exact List.mem_map_of_mem hr); omega)
  rw [hf] at h1
  exact h1.mono fun v L ⟨S', hv, hL⟩ => ⟨S', _, hv, by rw [List.map_drop, hf]; rfl, hL⟩
theorem next_g (h : Good g c) (hc : c ≤ 1000000) (hf : ps.map (·.1) = g.fs) : Does Tryz.prog E 23 [.pointer (some ⟨p, 0, none⟩)] [segC p g.size g.sure S, slc tPf true S ps, fsC ps] fun v L => v = .int .i64 (nextOf g.fs : Int) ∧ L = [segC p g.size g.sure S, slc tPf true S ps, fsC ps] := by
  have h1 := snext_ok E p g.size g.sure S ps (by have := h.few; rw [← hf] at this; simpa using this) (by rw [hf]; exact Nat.le_trans h.next (by omega))
  rw [hf] at h1
  exact h1
theorem first_g (h : Good g c) (hf : ps.map (·.1) = g.fs) : Does Tryz.prog E 38 [.pointer (some ⟨p, 0, none⟩)] [segC p g.size g.sure S, slc tPf true S ps, fsC ps] fun v L => v = .int .i64 (firstOf g.fs : Int) ∧ L = [segC p g.size g.sure S, slc tPf true S ps, fsC ps] := by
  have h1 := sfirst_ok E p g.size g.sure S ps (by have := h.few; rw [← hf] at this; simpa using this)
  rw [hf] at h1
  exact h1
theorem get_g (i : Int) (h : Good g c) (hc : c ≤ 1000000) (hf : ps.map (·.1) = g.fs) : Does Tryz.prog E 39 [.pointer (some ⟨p, 0, none⟩), .int .i64 i] [segC p g.size g.sure S, slc tPf true S ps, fsC ps] fun v L => v = getV g.fs i ∧ L = [segC p g.size g.sure S, slc tPf true S ps, fsC ps] := by
  have h1 := sget_ok E p g.size g.sure S ps i (by have := h.few; rw [← hf] at this; simpa using this) (fun r hr => by
    have := h.file r.1 (by rw [← hf]; exact List.mem_map_of_mem hr); exact ⟨this.1, this.2.2.1, Nat.le_trans this.2.2.2 (by omega)⟩)
  rw [hf] at h1
  exact h1
end
end Go.Proofs
/- What is played on a disk, and what a crash leaves: plain laws. -/
set_option autoImplicit false
namespace Go.Proofs

def plays (l : List Ac) : Dk := l.foldl (fun d a => (doD d a).1) ⟨[], 0⟩
theorem plays_succ (l : List Ac) (k : Nat) (h : k < l.length) : plays (l.take (k + 1)) = (doD (plays (l.take k)) l[k]).1 := by
  unfold plays
  rw [List.take_succ_eq_append_getElem h, List.foldl_append]
  rfl
theorem fold_ok (l : List Ac) : ∀ d : Dk, d.ok → (l.foldl (fun d a => (doD d a).1) d).ok := by
  induction l with
  | nil => intro d h; exact h
  | cons a l ih => intro d h; exact ih _ (doD_ok d a h)
theorem plays_ok (l : List Ac) : (plays l).ok := fold_ok l _ ⟨Nat.le_refl _, Nat.zero_le _⟩

def fewB (l : List Ac) : Bool := decide (l.length ≤ 40) && l.all fun a => decide (a.text.length ≤ 70000)
theorem few_text {l : List Ac} (h : fewB l = true) : l.length ≤ 40 ∧ ∀ a ∈ l, a.text.length ≤ 70000 := by
  simp only [fewB, Bool.and_eq_true, decide_eq_true_eq, List.all_eq_true] at h
  exact h
theorem few_long {l : List Ac} (h : 40 < l.length) : fewB l = false := by
  have : decide (l.length ≤ 40) = false := decide_eq_false (by omega)
  simp [fewB, this]
theorem few_wide {l : List Ac} {k : Nat} (h : k < l.length) (h2 : 70000 < l[k].text.length) : fewB l = false := by
  cases e : fewB l with
  | false => rfl
  | true => have := (few_text e).2 l[k] (List.getElem_mem h); omega
theorem few_yes {l : List Ac} (h : l.length ≤ 40) (h2 : ∀ a ∈ l.take l.length, a.text.length ≤ 70000) : fewB l = true := by
  rw [List.take_length] at h2
  simp only [fewB, Bool.and_eq_true, decide_eq_true_eq, List.all_eq_true]
  exact ⟨h, h2⟩
theorem take_succ_all {p : Ac → Prop} {l : List Ac} {k : Nat} (h : k < l.length) (h1 : ∀ a ∈ l.take k, p a) (h2 : p l[k]) : ∀ a ∈ l.take (k + 1), p a := by
  intro a ha
  rw [List.take_succ_eq_append_getElem h] at ha
  rcases List.mem_append.1 ha with ha | ha
  · exact h1 a ha
  · rw [List.mem_singleton.1 ha]; exact h2

theorem torn_get (keep s : Nat) (b : List UInt8) (k i : Nat) (h : i < s ∨ kb keep s i = true) : (torn keep s b k)[i]? = b[i]? := by
  simp only [torn, List.getElem?_mapIdx]
  cases b[i]? with
  | none => rfl
  | some x =>
    simp only [Option.map_some, Option.some.injEq]
    rcases h with h | h
    · rw [if_neg (by omega)]
    · rw [if_neg (by rw [h]; simp)]
/-- What was synced stays. -/
theorem tear_sure (d : Dk) (keep : Nat) : (tear d keep).take d.s = d.b.take d.s := by
  have he := endTo_le keep d.s (d.b.length - d.s)
  unfold tear
  rw [List.take_take, Nat.min_eq_left he.1]
  apply List.ext_getElem?
  intro i
  rw [List.getElem?_take, List.getElem?_take]
  split
  · rename_i hi; exact torn_get _ _ _ _ _ (.inl hi)
  · rfl
theorem endTo_kept (keep s : Nat) (hm : ∀ i j, i ≤ j → kb keep s (s + j) = true → kb keep s (s + i) = true) : ∀ k i, s ≤ i → i < endTo keep s k → kb keep s i = true
  | 0, i, h1, h2 => by simp only [endTo] at h2; omega
  | k + 1, i, h1, h2 => by
    simp only [endTo] at h2
    split at h2
    · rename_i hk
      have := hm (i - s) k (by omega) hk
      rwa [show s + (i - s) = i by omega] at this
    · exact endTo_kept keep s hm k i h1 h2
/-- A crash without gaps leaves a beginning. -/
theorem tear_begin (d : Dk) (keep : Nat) (hm : ∀ i j, i ≤ j → kb keep d.s (d.s + j) = true → kb keep d.s (d.s + i) = true) : tear d keep = d.b.take (endTo keep d.s (d.b.length - d.s)) := by
  unfold tear
  apply List.ext_getElem?
  intro i
  rw [List.getElem?_take, List.getElem?_take]
  split
  · rename_i hi
    apply torn_get
    by_cases h : i < d.s
    · exact .inl h
    · exact .inr (endTo_kept keep d.s hm _ i (by omega) hi)
  · rfl
theorem endTo_all (keep s : Nat) : ∀ k, (∀ j, j < k → kb keep s (s + j) = true) → endTo keep s k = s + k
  | 0, _ => rfl
  | k + 1, h => by simp only [endTo, h k (by omega), if_true]; omega
theorem endTo_none (keep s : Nat) : ∀ k, (∀ j, j < k → kb keep s (s + j) = false) → endTo keep s k = s
  | 0, _ => rfl
  | k + 1, h => by
    simp only [endTo, h k (by omega)]
    exact endTo_none keep s k fun j hj => h j (by omega)
theorem bits_full (k i : Nat) : ((2 ^ k - 1) >>> i % 2 == 1) = decide (i < k) := by
  have h := Nat.testBit_two_pow_sub_one k i
  rw [Nat.testBit_eq_decide_div_mod_eq] at h
  rw [Nat.shiftRight_eq_div_pow]
  by_cases hi : i < k
  · simp only [hi, decide_true, decide_eq_true_eq] at h
    simp [h, hi]
  · simp only [hi, decide_false, decide_eq_false_iff_not] at h
    simp [h, hi]
theorem kb_full (k s i : Nat) : kb (2 ^ k - 1) s i = (decide (i / 64 - s / 64 < 64) && decide (i / 64 - s / 64 < k)) := by
  unfold kb; rw [bits_full]
theorem kb_mono (k s : Nat) : ∀ i j, i ≤ j → kb (2 ^ k - 1) s (s + j) = true → kb (2 ^ k - 1) s (s + i) = true := by
  intro i j hij h
  rw [kb_full] at h ⊢
  simp only [Bool.and_eq_true, decide_eq_true_eq] at h ⊢
  omega
/-- A crash that keeps all of a few sectors changes nothing. -/
theorem tear_full (d : Dk) (h : d.s ≤ d.b.length) (h2 : d.b.length ≤ d.s + 3000) : tear d 18446744073709551615 = d.b := by
  have e : (18446744073709551615 : Nat) = 2 ^ 64 - 1 := by decide
  rw [e, tear_begin d _ (kb_mono 64 d.s), endTo_all]
  · rw [List.take_of_length_le (by omega)]
  · intro j hj
    rw [kb_full]
    simp only [Bool.and_eq_true, decide_eq_true_eq]
    omega
/-- A crash that keeps none leaves what was synced. -/
theorem tear_zero (d : Dk) : tear d 0 = d.b.take d.s := by
  have e : (0 : Nat) = 2 ^ 0 - 1 := by decide
  rw [e, tear_begin d _ (kb_mono 0 d.s), endTo_none]
  intro j _
  rw [kb_full]; simp
/-- A write: what was synced stays. -/
theorem write_sure (d : Dk) (t : List UInt8) (h : d.ok) : (doD d ⟨1, t, 0⟩).1.s = d.s ∧ d.s ≤ (doD d ⟨1, t, 0⟩).1.b.length ∧ (doD d ⟨1, t, 0⟩).1.b.take d.s = d.b.take d.s := by
  obtain ⟨h1, h2⟩ := h
  unfold doD
  rw [if_pos rfl]
  split
  · exact ⟨rfl, h1, rfl⟩
  · refine ⟨rfl, by simp; omega, ?_⟩
    rw [List.take_append_of_le_length h1]
theorem write_small (d : Dk) (t : List UInt8) : (doD d ⟨1, t, 0⟩).1.s = d.s ∧ (doD d ⟨1, t, 0⟩).1.b.length ≤ d.b.length + t.length := by
  unfold doD
  rw [if_pos rfl]
  split
  · exact ⟨rfl, by simp⟩
  · exact ⟨rfl, by simp⟩
theorem or_one (i : Nat) (h : i < 64) : ((2 ^ i - 1) * 2 ||| 1) = 2 ^ (i + 1) - 1 ∧ (2 ^ i - 1) * 2 < 2 ^ 64 := by
  have h1 := Nat.two_pow_add_eq_or_of_lt (i := 1) (b := 1) (by decide) (2 ^ i - 1)
  have h2 : 0 < 2 ^ i := Nat.two_pow_pos i
  have h3 : 2 ^ i ≤ 2 ^ 63 := Nat.pow_le_pow_right (by decide) (by omega)
  rw [Nat.pow_one] at h1
  rw [Nat.mul_comm, ← h1, Nat.pow_succ]
  constructor <;> omega
end Go.Proofs
/- What is there behind a drop, a crash, in plain Lean. -/
set_option autoImplicit false
namespace Go.Proofs
theorem drop_next (fs : List Fl) (seq : Int) : nextOf (fs.drop (dropN fs seq)) = nextOf fs := by
  rcases dropN_lt fs seq with rfl | h
  · simp [dropN]
  · unfold nextOf
    rw [List.getLast?_drop, if_neg (by omega)]
theorem drop_first : ∀ (fs : List Fl) (seq : Int), chain fs → firstOf fs ≤ firstOf (fs.drop (dropN fs seq)) ∧ (firstOf (fs.drop (dropN fs seq)) = firstOf fs ∨ (firstOf (fs.drop (dropN fs seq)) : Int) ≤ seq)
  | [], seq, _ => by simp [dropN]
  | [f], seq, _ => by simp [dropN]
  | f :: f2 :: r, seq, h => by
    obtain ⟨i1, i2⟩ := drop_first (f2 :: r) seq h.2
    have e : firstOf (f2 :: r) = f.next := h.1
    have e0 : firstOf (f :: f2 :: r) = f.first := rfl
    have hn : f.next = f.first + f.l.length := rfl
    simp only [dropN]
    split
    · rename_i h1
      rw [List.drop_succ_cons, e0]
      refine ⟨by omega, .inr ?_⟩
      rcases i2 with i2 | i2 <;> omega
    · exact ⟨Nat.le_refl _, .inl rfl⟩
theorem first_le_next : ∀ (fs : List Fl), chain fs → firstOf fs ≤ nextOf fs
  | [], _ => Nat.le_refl _
  | [f], _ => by simp [firstOf, nextOf, Fl.next]
  | f :: f2 :: r, h => by
    have ih := first_le_next (f2 :: r) h.2
    have e : firstOf (f2 :: r) = f.next := h.1
    have e1 : nextOf (f :: f2 :: r) = nextOf (f2 :: r) := by simp [nextOf]
    have e0 : firstOf (f :: f2 :: r) = f.first := rfl
    have hn : f.next = f.first + f.l.length := rfl
    omega
/-- What is there is told. -/
theorem getL_there : ∀ (fs : List Fl) (x : Nat), chain fs → firstOf fs ≤ x → x < nextOf fs → (getL fs (x : Int)).2 = 0
  | [], x, _, _, h => by simp [nextOf] at h
  | [f], x, _, h1, h2 => by
    have e0 : firstOf [f] = f.first := rfl
    have e1 : nextOf [f] = f.next := rfl
    simp only [getL]
    rw [if_pos (by omega)]
  | f :: f2 :: r, x, h, h1, h2 => by
    have e : firstOf (f2 :: r) = f.next := h.1
    have e1 : nextOf (f :: f2 :: r) = nextOf (f2 :: r) := by simp [nextOf]
    have e0 : firstOf (f :: f2 :: r) = f.first := rfl
    rw [getL]
    split
    · rfl
    · exact getL_there (f2 :: r) x h.2 (by omega) (by omega)
/-- Another last file, which has the same first ones. -/
theorem getL_last (f f' : Fl) (x : Nat) (h : f.first = f'.first) (j : Nat) (hx : x < f.first + j) (h1 : j ≤ f.l.length) (h2 : j ≤ f'.l.length) (h3 : f.l.take j = f'.l.take j) : ∀ a : List Fl, getL (a ++ [f]) (x : Int) = getL (a ++ [f']) (x : Int)
  | [] => by
    have hn : f.next = f.first + f.l.length := rfl
    have hn' : f'.next = f'.first + f'.l.length := rfl
    simp only [List.nil_append, getL]
    by_cases hc : (f.first : Int) ≤ x
    · rw [if_pos (by omega), if_pos (by omega)]
      have e : ((x : Int) - (f.first : Int)).toNat = x - f.first := by omega
      rw [← h, e]
      congr 1
      have e2 : x - f.first < j := by omega
      have e3 : (f.l.take j)[x - f.first]? = (f'.l.take j)[x - f.first]? := by rw [h3]
      rw [List.getElem?_take, List.getElem?_take, if_pos e2, if_pos e2] at e3
      rw [List.getD_eq_getElem?_getD, List.getD_eq_getElem?_getD, e3]
    · rw [if_neg (by omega), if_neg (by omega)]
  | b :: a => by
    simp only [List.cons_append, getL]
    rw [getL_last f f' x h j hx h1 h2 h3 a]
/-- The least that is not synced stands at a record's end. -/
def SureAt (g : Lg) : Prop := (g.fs = [] ∧ g.sure = 0) ∨ ∃ (a : List Fl) (f : Fl) (j : Nat), g.fs = a ++ [f] ∧ j ≤ f.l.length ∧ f.s = (text (f.l.take j)).length ∧ g.sure = f.first + j
theorem sureAt_new (z : Nat) : SureAt ⟨z, 0, []⟩ := .inl ⟨rfl, rfl⟩
theorem SureAt.sync {g : Lg} (_ : SureAt g) (h : SureAt g) : SureAt (syncL g) := by
  rcases last_cases g.fs with e | ⟨a, f, e⟩
  · left
    rcases h with ⟨_, h⟩ | ⟨a, f, j, h, _⟩
    · exact ⟨by simp [syncL, e, onLast], by simp [syncL, e, h]⟩
    · rw [e] at h; simp at h
  · right
    refine ⟨a, syncF f, f.l.length, ?_, Nat.le_refl _, by simp [syncF], ?_⟩
    · simp only [syncL]; rw [e, onLast_snoc]
    · simp only [syncL]; rw [if_neg (by rw [e]; simp), e, nextOf_snoc]; rfl
theorem SureAt.app {g : Lg} (t : List UInt8) (h : SureAt g) : SureAt (appL g t).1 := by
  unfold appL
  split
  · exact h
  split
  · exact h
  split
  · rename_i h3
    rcases h with ⟨e, _⟩ | ⟨a, f, j, e, h1, h2, h4⟩
    · simp [roomB, e] at h3
    · right
      refine ⟨a, putF f t, j, by simp only; rw [e, onLast_snoc], by simp [putF]; omega, ?_, h4⟩
      simp only [putF]
      rw [List.take_append_of_le_length h1]; exact h2
  · split
    · exact h
    · right
      have hs := h.sync h
      refine ⟨(syncL g).fs, ⟨nextOf g.fs, [t], 0⟩, 0, rfl, Nat.zero_le _, by simp [text], ?_⟩
      simp only [Nat.add_zero]
      rcases last_cases g.fs with e | ⟨a, f, e⟩
      · rcases h with ⟨_, h⟩ | ⟨a, f, j, h, _⟩
        · simp [syncL, e, h, nextOf]
        · rw [e] at h; simp at h
      · simp only [syncL]; rw [if_neg (by rw [e]; simp)]
theorem SureAt.drop {g : Lg} (seq : Int) (h : SureAt g) : SureAt (dropL g seq).1 := by
  rcases h with ⟨e, h⟩ | ⟨a, f, j, e, h1, h2, h3⟩
  · left; exact ⟨by simp [dropL, e], h⟩
  · right
    have hl := (dropN_lt g.fs seq).resolve_left (by rw [e]; simp)
    refine ⟨a.drop (dropN g.fs seq), f, j, ?_, h1, h2, h3⟩
    simp only [dropL]
    rw [e] at hl ⊢
    rw [List.drop_append_of_le_length (by simp at hl; omega)]
/-- What was sure is there behind a crash. -/
theorem crash_sure {g : Lg} {c keep : Nat} (hg : Good g c) (h : SureAt g) : firstOf (crashL g keep).fs = firstOf g.fs ∧ g.sure ≤ nextOf (crashL g keep).fs ∧ (crashL g keep).sure = nextOf (crashL g keep).fs ∧ ∀ x : Nat, x < g.sure → getL (crashL g keep).fs (x : Int) = getL g.fs (x : Int) := by
  rcases h with ⟨e, h⟩ | ⟨a, f, j, e, h1, h2, h3⟩
  · have : (crashL g keep).fs = [] := by simp [crashL, e, onLast]
    rw [this, e, h]
    refine ⟨rfl, Nat.zero_le _, by simp [crashL, e, h, nextOf], fun x hx => rfl⟩
  · obtain ⟨a1, a2, a3, a4⟩ := hg.file f (by rw [e]; simp)
    have e2 : (crashL g keep).fs = a ++ [crashF f keep] := by simp only [crashL]; rw [e, onLast_snoc]
    have hsu := tear_sure f.d keep
    have htk : (tear f.d keep).take (text (f.l.take j)).length = text (f.l.take j) := by
      rw [← h2]
      refine hsu.trans ?_
      show (text f.l).take f.s = _
      rw [h2]
      have e1 : text f.l = text (f.l.take j) ++ text (f.l.drop j) := by rw [← text_append, List.take_append_drop]
      rw [e1, List.take_left]
    have hsp : tear f.d keep = text (f.l.take j) ++ (tear f.d keep).drop (text (f.l.take j)).length := by
      conv => lhs; rw [← List.take_append_drop (text (f.l.take j)).length (tear f.d keep), htk]
    have hpa := prefixR_app (f.l.take j) ((tear f.d keep).drop (text (f.l.take j)).length) (fun t ht => a3 t (List.mem_of_mem_take ht))
    rw [← hsp] at hpa
    have hcl : (crashF f keep).l = f.l.take j ++ (prefixR ((tear f.d keep).drop (text (f.l.take j)).length)).1 := by simp only [crashF]; rw [hpa]
    have hj : (f.l.take j).length = j := by rw [List.length_take]; omega
    have hj2 : j ≤ (crashF f keep).l.length := by rw [hcl, List.length_append, hj]; omega
    have hf : (crashF f keep).first = f.first := rfl
    refine ⟨?_, ?_, ?_, ?_⟩
    · rw [e2, e]
      cases a <;> rfl
    · rw [e2, nextOf_snoc, h3]; simp only [Fl.next, hf]; omega
    · simp only [crashL]; rw [if_neg (by rw [e]; simp)]
    · intro x hx
      rw [h3] at hx
      rw [e2, e]
      refine (getL_last f (crashF f keep) x hf.symm j (by omega) h1 hj2 ?_ a).symm
      rw [hcl, List.take_append_of_le_length (by omega), List.take_take, Nat.min_self]
end Go.Proofs
/- What stands in a log is what was appended, in plain Lean. -/
set_option autoImplicit false
namespace Go.Proofs
structure Back (g : Lg) (all : List (List UInt8)) : Prop where
  at' : ∀ f ∈ g.fs, ∀ (j : Nat) t, f.l[j]? = some t → all[f.first + j]? = some t
  le : nextOf g.fs ≤ all.length
theorem chain_le : ∀ (a : List Fl) (f : Fl), chain (a ++ [f]) → ∀ x ∈ a, x.next ≤ f.first
  | [], _, _, x, hx => by simp at hx
  | [y], f, h, x, hx => by
    simp only [List.mem_singleton] at hx
    subst hx
    have : f.first = x.next := h.1
    omega
  | y :: z :: r, f, h, x, hx => by
    have ih := chain_le (z :: r) f h.2
    rcases List.mem_cons.1 hx with rfl | hx
    · have h1 : z.first = x.next := h.1
      have h2 := ih z (by simp)
      have h3 : z.next = z.first + z.l.length := rfl
      omega
    · exact ih x hx
theorem back_new (z : Nat) : Back ⟨z, 0, []⟩ [] := ⟨by simp, by simp [nextOf]⟩
theorem next_le (g : Lg) (h : chain g.fs) : ∀ f ∈ g.fs, f.next ≤ nextOf g.fs := by
  intro f hf
  rcases last_cases g.fs with e | ⟨a, x, e⟩
  · rw [e] at hf; simp at hf
  · rw [e] at hf h ⊢
    rw [nextOf_snoc]
    rw [List.mem_append, List.mem_singleton] at hf
    rcases hf with hf | rfl
    · have := chain_le a x h f hf
      have h3 : x.next = x.first + x.l.length := rfl
      omega
    · exact Nat.le_refl _
theorem Back.sync {g : Lg} {all : List (List UInt8)} (h : Back g all) : Back (syncL g) all := by
  rcases last_cases g.fs with e | ⟨a, x, e⟩
  · have : (syncL g).fs = [] := by simp [syncL, e, onLast]
    exact ⟨by rw [this]; simp, by rw [this]; simp [nextOf]⟩
  · have e2 : (syncL g).fs = a ++ [syncF x] := by simp only [syncL]; rw [e, onLast_snoc]
    refine ⟨?_, ?_⟩
    · intro f hf
      rw [e2, List.mem_append, List.mem_singleton] at hf
      rcases hf with hf | rfl
      · exact h.at' f (by rw [e]; simp [hf])
      · exact h.at' x (by rw [e]; simp)
    · have := h.le; rw [e, nextOf_snoc] at this; rw [e2, nextOf_snoc]; exact this
theorem Back.drop {g : Lg} {all : List (List UInt8)} (seq : Int) (h : Back g all) : Back (dropL g seq).1 all :=
  ⟨fun f hf => h.at' f (List.mem_of_mem_drop hf), by have := h.le; rwa [← drop_next g.fs seq] at this⟩
/-- .. behind a crash without gaps. -/
theorem Back.crash {g : Lg} {c k : Nat} {all : List (List UInt8)} (hg : Good g c) (h : Back g all) : Back (crashL g (2 ^ k - 1)) all := by
  rcases last_cases g.fs with e | ⟨a, x, e⟩
  · have : (crashL g (2 ^ k - 1)).fs = [] := by simp [crashL, e, onLast]
    exact ⟨by rw [this]; simp, by rw [this]; simp [nextOf]⟩
  · have e2 : (crashL g (2 ^ k - 1)).fs = a ++ [crashF x (2 ^ k - 1)] := by simp only [crashL]; rw [e, onLast_snoc]
    obtain ⟨a1, a2, a3, a4⟩ := hg.file x (by rw [e]; simp)
    have htb := tear_begin x.d (2 ^ k - 1) (kb_mono k x.d.s)
    obtain ⟨j, hj, hc⟩ := prefixR_cut x.l a3 (endTo (2 ^ k - 1) x.d.s (x.d.b.length - x.d.s))
    have hl : (crashF x (2 ^ k - 1)).l = x.l.take j := by
      simp only [crashF]; rw [htb]; exact hc
    have hf1 : (crashF x (2 ^ k - 1)).first = x.first := rfl
    refine ⟨?_, ?_⟩
    · intro f hf
      rw [e2, List.mem_append, List.mem_singleton] at hf
      rcases hf with hf | rfl
      · exact h.at' f (by rw [e]; simp [hf])
      · intro i t ht
        rw [hl, List.getElem?_take] at ht
        split at ht
        · exact h.at' x (by rw [e]; simp) i t ht
        · cases ht
    · have := h.le; rw [e, nextOf_snoc] at this; rw [e2, nextOf_snoc]
      simp only [Fl.next, hl, hf1, List.length_take] at this ⊢; omega
/-- .. behind an append. -/
theorem Back.app {g : Lg} {all : List (List UInt8)} (t : List UInt8) (hc : chain g.fs) (h : Back g all) :
    ((appL g t).2.2 ≠ 0 → Back (appL g t).1 all) ∧ ((appL g t).2.2 = 0 → (appL g t).2.1 = nextOf g.fs ∧ Back (appL g t).1 (all.take (nextOf g.fs) ++ [t])) := by
  have hle := h.le
  have hlen : (all.take (nextOf g.fs)).length = nextOf g.fs := by rw [List.length_take]; omega
  have hold : ∀ f ∈ g.fs, ∀ (j : Nat) u, f.l[j]? = some u → (all.take (nextOf g.fs) ++ [t])[f.first + j]? = some u := by
    intro f hf j u hu
    have h1 := next_le g hc f hf
    have h2 := (List.getElem?_eq_some_iff.1 hu).1
    have h3 : f.next = f.first + f.l.length := rfl
    rw [List.getElem?_append_left (by omega), List.getElem?_take, if_pos (by omega)]
    exact h.at' f hf j u hu
  have hnew : (all.take (nextOf g.fs) ++ [t])[nextOf g.fs]? = some t := by
    rw [List.getElem?_append_right (by omega), hlen]; simp
  unfold appL
  split
  · exact ⟨fun _ => h, fun h => by simp at h⟩
  split
  · exact ⟨fun _ => h, fun h => by simp at h⟩
  split
  · rename_i h3
    refine ⟨fun h => absurd rfl h, fun _ => ⟨rfl, ?_⟩⟩
    rcases last_cases g.fs with e | ⟨a, x, e⟩
    · simp [roomB, e] at h3
    · have hx : nextOf g.fs = x.next := by rw [e, nextOf_snoc]
      refine ⟨?_, ?_⟩
      · intro f hf
        simp only [e, onLast_snoc, List.mem_append, List.mem_singleton] at hf
        rcases hf with hf | rfl
        · exact hold f (by rw [e]; simp [hf])
        · intro j u hu
          simp only [putF] at hu ⊢
          by_cases hj : j < x.l.length
          · rw [List.getElem?_append_left hj] at hu
            exact hold x (by rw [e]; simp) j u hu
          · rw [List.getElem?_append_right (by omega)] at hu
            by_cases hj2 : j = x.l.length
            · subst hj2
              simp at hu
              subst hu
              rw [← hnew, hx]; rfl
            · rw [List.getElem?_eq_none (by simp; omega)] at hu; cases hu
      · simp only [List.length_append, hlen, List.length_singleton]
        rw [e, onLast_snoc, nextOf_snoc, nextOf_snoc]
        simp only [Fl.next, putF, List.length_append, List.length_singleton]; omega
  · split
    · exact ⟨fun _ => h, fun h => by simp at h⟩
    · refine ⟨fun h => absurd rfl h, fun _ => ⟨rfl, ?_⟩⟩
      have hsf : ∀ f ∈ (syncL g).fs, ∃ f' ∈ g.fs, f.first = f'.first ∧ f.l = f'.l := by
        intro f hf
        rcases last_cases g.fs with e | ⟨a, x, e⟩
        · simp [syncL, e, onLast] at hf
        · simp only [syncL, e, onLast_snoc, List.mem_append, List.mem_singleton] at hf
          rcases hf with hf | rfl
          · exact ⟨f, by rw [e]; simp [hf], rfl, rfl⟩
          · exact ⟨x, by rw [e]; simp, rfl, rfl⟩
      refine ⟨?_, ?_⟩
      · intro f hf j u hu
        simp only [List.mem_append, List.mem_singleton] at hf
        rcases hf with hf | rfl
        · obtain ⟨f', hf', h1, h2⟩ := hsf f hf
          rw [h1]; rw [h2] at hu
          exact hold f' hf' j u hu
        · cases j with
          | zero => simp at hu; subst hu; exact hnew
          | succ j => simp at hu
      · simp only [nextOf_snoc, Fl.next, List.length_append, hlen, List.length_singleton]
        omega
/-- What is told is what was appended. -/
theorem back_get (all : List (List UInt8)) (x : Nat) : ∀ (fs : List Fl), chain fs → (∀ f ∈ fs, ∀ (j : Nat) t, f.l[j]? = some t → all[f.first + j]? = some t) → firstOf fs ≤ x → x < nextOf fs → ∃ t, all[x]? = some t ∧ getL fs (x : Int) = (t, 0)
  | [], _, _, _, h => by simp [nextOf] at h
  | [f], _, hb, h1, h2 => by
    have e0 : firstOf [f] = f.first := rfl
    have e1 : nextOf [f] = f.first + f.l.length := rfl
    have e2 : f.next = f.first + f.l.length := rfl
    have hj : x - f.first < f.l.length := by omega
    refine ⟨f.l[x - f.first], ?_, ?_⟩
    · have := hb f (by simp) (x - f.first) _ (List.getElem?_eq_getElem hj)
      rwa [show f.first + (x - f.first) = x by omega] at this
    · simp only [getL]
      rw [if_pos (by omega), show ((x : Int) - (f.first : Int)).toNat = x - f.first by omega]
      simp [List.getD_eq_getElem?_getD, List.getElem?_eq_getElem hj]
  | f :: f2 :: r, h, hb, h1, h2 => by
    have e : firstOf (f2 :: r) = f.next := h.1
    have e1 : nextOf (f :: f2 :: r) = nextOf (f2 :: r) := by simp [nextOf]
    have e0 : firstOf (f :: f2 :: r) = f.first := rfl
    have e2 : f.next = f.first + f.l.length := rfl
    by_cases hx : x < f.next
    · have hj : x - f.first < f.l.length := by omega
      refine ⟨f.l[x - f.first], ?_, ?_⟩
      · have := hb f (by simp) (x - f.first) _ (List.getElem?_eq_getElem hj)
        rwa [show f.first + (x - f.first) = x by omega] at this
      · rw [getL, if_pos (by omega), show ((x : Int) - (f.first : Int)).toNat = x - f.first by omega]
        simp [List.getD_eq_getElem?_getD, List.getElem?_eq_getElem hj]
    · rw [getL, if_neg (by omega)]
      exact back_get all x (f2 :: r) h.2 (fun f hf => hb f (by simp [hf])) (by omega) (by omega)
end Go.Proofs
