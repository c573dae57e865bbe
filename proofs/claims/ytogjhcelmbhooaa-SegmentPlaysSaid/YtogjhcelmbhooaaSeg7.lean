/- A log in files: a drop; an append. -/
import Derived.Test.YtogjhcelmbhooaaSeg6
import Derived.Test.YtogjhcelmbhooaaSl18
set_option autoImplicit false
namespace Go.Proofs
open Go.SL
theorem dropN_step : ∀ (a : List Fl) (f f2 : Fl) (b : List Fl) (seq : Int), (f.next : Int) ≤ seq → dropN (a ++ f :: f2 :: b) seq = a.length + dropN (f :: f2 :: b) seq → dropN (a ++ f :: f2 :: b) seq = (a.length + 1) + dropN (f2 :: b) seq := by
  intro a f f2 b seq h h2
  rw [h2]
  simp only [dropN]
  rw [if_pos h]; omega
attribute [local irreducible] J JL QOp JOp seqQ blockQ loopQ retQ slc cel hex star pur stars Does RV Ent pAt scopeQ
attribute [local irreducible] fileAt diskAt
theorem sdrop_ok (E : World) (p size sure : Nat) (S : SV) (ps : List Fp) (seq : Int) (hps : ps.length ≤ 16) (hok : ∀ r ∈ ps, r.1.next ≤ 10000000) :
    Does Try.prog E 17 [.pointer (some ⟨p, 0, none⟩), .int .i64 seq] [segC p size sure S, slc tPf true S ps, fsC ps] fun v L => ∃ S' : SV, v = .int .i64 (dropN (ps.map (·.1)) seq : Int) ∧
      L = [segC p size sure S', slc tPf true S' (ps.drop (dropN (ps.map (·.1)) seq)), fsC (ps.drop (dropN (ps.map (·.1)) seq))] := by
  have hdl := dropN_le (ps.map (·.1)) seq
  rw [List.length_map] at hdl
  have hdel := fun m (h : m ≤ ps.length) => delete_ok E S ps 0 m (Nat.zero_le _) h (by omega)
  refine Does.of Try.func17 rfl Try.ntmps17 rfl rfl fun F => ?_
  refine J.norm ?_
  refine J_seq ?_
  refine J_region ?_
  refine L_q (Q_assign rfl) rfl rfl rfl ?_
  refine JL_nil ?_
  refine seqQ_normal ?_
  refine J_scope ?_
  refine J_seq ?_
  refine J_seq ?_
  refine J_region ?_
  refine L_q (Q_move rfl) rfl rfl rfl ?_
  refine L_q ((Q_peql rfl rfl).as (v' := .bool false) rfl) rfl rfl rfl ?_
  refine JL_nil ?_
  refine seqQ_normal ?_
  refine J_condF rfl ?_
  refine J_skip ?_
  refine seqQ_normal ?_
  refine J_seq ?_
  refine J_region ?_
  refine L_q (Q_assign rfl) rfl rfl rfl ?_
  refine JL_nil ?_
  refine seqQ_normal ?_
  refine J_seq ?_
  refine J_label ?_
  refine seqQ_normal ?_
  refine J_seq ?_
  refine J_seq ?_
  refine J_region ?_
  refine L_q (Q_move rfl) rfl rfl rfl ?_
  refine L_q (Q_nilCheck rfl) rfl rfl rfl ?_
  refine L_q (Q_fa0 rfl) rfl rfl rfl ?_
  refine L_q (Q_ld 0 rfl rfl rfl rfl) rfl rfl rfl ?_
  refine L_q (Q_lenAt 1 rfl rfl) rfl rfl rfl ?_
  refine L_q (Q_move rfl) rfl rfl rfl ?_
  refine JL_nil ?_
  refine seqQ_normal ?_
  refine J_block ?_
  refine J_loop (fun k : Nat => k ≤ ps.length ∧ dropN (ps.map (·.1)) seq = k + dropN ((ps.drop k).map (·.1)) seq) (fun k => [(0, .pointer (some ⟨p, 0, none⟩)), (1, .int .i64 seq), (5, .int .i64 (k : Int)), (13, S.v), (14, .int .i64 (ps.length : Int)), (15, .int .i64 (k : Int))])
    (fun _ => [segC p size sure S, slc tPf true S ps, fsC ps, F]) (fun k => ps.length - k) 0 ⟨by simp, by simp⟩ ⟨rfl, rfl, rfl, rfl, rfl, rfl, trivial⟩ (Ent.refl _) ?_
  rintro k ⟨hk, hg⟩
  refine J_seq ?_
  refine J_region ?_
  refine L_q (Q_lss rfl rfl) rfl rfl rfl ?_
  refine JL_nil ?_
  refine seqQ_normal ?_
  refine J_seq ?_
  refine J_condD rfl (fun h => ?_) (fun h => ?_)
  · have hlt : k < ps.length := by omega
    obtain ⟨a, ⟨f, q⟩, b, rfl, rfl⟩ := split_at ps k hlt
    have hgm := get_mid a (f, q) b hlt
    have o3' : f.next ≤ 10000000 := hok (f, q) (by simp)
    rw [List.drop_left] at hg
    refine J_skip ?_
    refine seqQ_normal ?_
    refine J_seq ?_
    refine J_block ?_
    refine J_seq ?_
    refine J_region ?_
    refine L_q (Q_move rfl) rfl rfl rfl ?_
    refine L_q (Q_ixAt 1 a.length rfl rfl rfl rfl hlt rfl) rfl rfl rfl ?_
    refine L_q (Q_ldEAt 1 a.length 0 (v := .pointer (some ⟨q, 0, none⟩)) rfl rfl rfl rfl hlt (by decide) (by rw [hgm]; rfl)) rfl rfl rfl ?_
    refine L_q (Q_assign rfl) rfl rfl rfl ?_
    refine L_q (Q_assign rfl) rfl rfl rfl ?_
    refine JL_nil ?_
    refine seqQ_normal ?_
    refine J_seq ?_
    refine J_block ?_
    refine J_seq ?_
    have hlen : (a ++ (f, q) :: b).length = a.length + (b.length + 1) := by simp
    cases b with
    | nil =>
      refine J_region ?_
      refine L_q (Q_move rfl) rfl rfl rfl ?_
      refine L_q (Q_move rfl) rfl rfl rfl ?_
      refine L_q (Q_nilCheck rfl) rfl rfl rfl ?_
      refine L_q (Q_fa0 rfl) rfl rfl rfl ?_
      refine L_q (Q_ld 0 rfl rfl rfl rfl) rfl rfl rfl ?_
      refine L_q (Q_lenAt 1 rfl rfl) rfl rfl rfl ?_
      refine L_q (Q_sub rfl rfl (by first | exact IntWalk.i64_in _ (by omega) | exact IntWalk.u8_in _ (by omega) | exact IntWalk.u32_in _ (by omega) | exact IntWalk.u64_in _ (by omega) | rfl)) rfl rfl rfl ?_
      refine L_q ((Q_eql rfl rfl).as (v' := .bool true) (congrArg Value.bool (decide_eq_true (by rw [hlen]; simp only [List.length_nil]; omega)))) rfl rfl rfl ?_
      refine L_q (Q_assign rfl) rfl rfl rfl ?_
      refine JL_nil ?_
      refine seqQ_normal ?_
      refine J_condT rfl ?_
      refine J_exit ?_
      refine blockQ_miss rfl ?_
      refine seqQ_exit ?_
      refine blockQ_miss rfl ?_
      refine seqQ_exit ?_
      refine loopQ_exit ?_
      refine blockQ_hit ?_
      refine seqQ_normal ?_
      refine J_seq ?_
      have hg2 : dropN ((a ++ [(f, q)]).map (·.1)) seq = a.length := by rw [hg]; rfl
      refine J_region ?_
      refine L_q (Q_move rfl) rfl rfl rfl ?_
      refine L_q (Q_move rfl) rfl rfl rfl ?_
      refine L_q (Q_nilCheck rfl) rfl rfl rfl ?_
      refine L_q (Q_fa0 rfl) rfl rfl rfl ?_
      refine L_q (Q_ld 0 rfl rfl rfl rfl) rfl rfl rfl ?_
      refine L_q (Q_move rfl) rfl rfl rfl ?_
      refine L_o rfl rfl rfl (O_call [1] [0,2,3] (hdel a.length (by simp)) rfl rfl ?_)
      rintro _ _ ⟨S', rfl, rfl⟩
      refine JL.norm ?_
      refine L_q (Q_nilCheck rfl) rfl rfl rfl ?_
      refine L_q (Q_fa0 rfl) rfl rfl rfl ?_
      refine L_s rfl rfl (O_st1 1 rfl rfl rfl rfl rfl ?_)
      refine JL.norm ?_
      refine JL_nil ?_
      refine seqQ_normal ?_
      refine J_seq ?_
      refine J_region ?_
      refine L_q (Q_move rfl) rfl rfl rfl ?_
      refine L_q (Q_assign rfl) rfl rfl rfl ?_
      refine JL_nil ?_
      refine seqQ_normal ?_
      refine J_ret ?_
      refine scopeQ_ret ?_
      refine retQ_ret _ [segC p size sure S', slc tPf true S' ((a ++ [(f, q)]).drop (dropN ((a ++ [(f, q)]).map (·.1)) seq)), fsC ((a ++ [(f, q)]).drop (dropN ((a ++ [(f, q)]).map (·.1)) seq))] (.cons (RV_tmp rfl) .nil) ⟨S', by rw [hg2]; rfl, rfl⟩ ?_
      rw [hg2, show (a ++ [(f, q)]).take 0 ++ (a ++ [(f, q)]).drop (a.length) = (a ++ [(f, q)]).drop (a.length) from rfl]
      have hsp : Ent (fsC (a ++ [(f, q)]) :: [segC p size sure S', slc tPf true S' ((a ++ [(f, q)]).drop (a.length)), F]) (fsC ((a ++ [(f, q)]).drop (a.length)) :: [segC p size sure S', slc tPf true S' ((a ++ [(f, q)]).drop (a.length)), F]) := by
        have e : (a ++ [(f, q)]).map fileAt = ((a ++ [(f, q)]).take (a.length)).map fileAt ++ ((a ++ [(f, q)]).drop (a.length)).map fileAt := by rw [← List.map_append, List.take_append_drop]
        unfold fsC
        rw [e]
        exact Ent.stars_drop
      exact ((Ent.re [2, 1, 0, 3] rfl).trans hsp).trans (Ent.re [1, 2, 0, 3] rfl)
    | cons r b =>
      obtain ⟨f2, q2⟩ := r
      refine J_region ?_
      refine L_q (Q_move rfl) rfl rfl rfl ?_
      refine L_q (Q_move rfl) rfl rfl rfl ?_
      refine L_q (Q_nilCheck rfl) rfl rfl rfl ?_
      refine L_q (Q_fa0 rfl) rfl rfl rfl ?_
      refine L_q (Q_ld 0 rfl rfl rfl rfl) rfl rfl rfl ?_
      refine L_q (Q_lenAt 1 rfl rfl) rfl rfl rfl ?_
      refine L_q (Q_sub rfl rfl (by first | exact IntWalk.i64_in _ (by omega) | exact IntWalk.u8_in _ (by omega) | exact IntWalk.u32_in _ (by omega) | exact IntWalk.u64_in _ (by omega) | rfl)) rfl rfl rfl ?_
      refine L_q ((Q_eql rfl rfl).as (v' := .bool false) (congrArg Value.bool (decide_eq_false (by rw [hlen]; simp only [List.length_cons]; omega)))) rfl rfl rfl ?_
      refine L_q (Q_assign rfl) rfl rfl rfl ?_
      refine JL_nil ?_
      refine seqQ_normal ?_
      refine J_condF rfl ?_
      refine J_seq ?_
      have hfn : ∀ x : Int, x = f.next → x = (f.next : Int) := fun _ h => h
      refine J.ent ((Ent.re [2, 0, 1, 3] rfl).trans (Ent.mid_out fileAt a (f, q) ((f2, q2) :: b))) ?_
      refine J_region ?_
      refine L_q (Q_move rfl) rfl rfl rfl ?_
      refine L_o rfl rfl rfl (O_call [0] [1,2,3,4] (fnext_ok E f q o3') rfl rfl ?_)
      rintro _ _ ⟨rfl, rfl⟩
      refine JL.norm ?_
      refine L_q (Q_move rfl) rfl rfl rfl ?_
      refine L_q (Q_gtr rfl rfl) rfl rfl rfl ?_
      refine L_q (Q_assign rfl) rfl rfl rfl ?_
      refine JL_nil ?_
      refine seqQ_normal ?_
      refine J.ent ((Ent.mid_in fileAt a (f, q) ((f2, q2) :: b)).trans (Ent.re [1, 2, 0, 3] rfl)) ?_
      refine J_condD rfl (fun h3 => ?_) (fun h3 => ?_)
      · have hg2 : dropN ((a ++ (f, q) :: (f2, q2) :: b).map (·.1)) seq = a.length := by
          rw [hg]
          simp only [List.map_cons, dropN]
          rw [if_neg (by omega)]; rfl
        refine J_exit ?_
        refine blockQ_miss rfl ?_
        refine seqQ_exit ?_
        refine blockQ_miss rfl ?_
        refine seqQ_exit ?_
        refine loopQ_exit ?_
        refine blockQ_hit ?_
        refine seqQ_normal ?_
        refine J_seq ?_
        refine J_region ?_
        refine L_q (Q_move rfl) rfl rfl rfl ?_
        refine L_q (Q_move rfl) rfl rfl rfl ?_
        refine L_q (Q_nilCheck rfl) rfl rfl rfl ?_
        refine L_q (Q_fa0 rfl) rfl rfl rfl ?_
        refine L_q (Q_ld 0 rfl rfl rfl rfl) rfl rfl rfl ?_
        refine L_q (Q_move rfl) rfl rfl rfl ?_
        refine L_o rfl rfl rfl (O_call [1] [0,2,3] (hdel a.length (by simp)) rfl rfl ?_)
        rintro _ _ ⟨S', rfl, rfl⟩
        refine JL.norm ?_
        refine L_q (Q_nilCheck rfl) rfl rfl rfl ?_
        refine L_q (Q_fa0 rfl) rfl rfl rfl ?_
        refine L_s rfl rfl (O_st1 1 rfl rfl rfl rfl rfl ?_)
        refine JL.norm ?_
        refine JL_nil ?_
        refine seqQ_normal ?_
        refine J_seq ?_
        refine J_region ?_
        refine L_q (Q_move rfl) rfl rfl rfl ?_
        refine L_q (Q_assign rfl) rfl rfl rfl ?_
        refine JL_nil ?_
        refine seqQ_normal ?_
        refine J_ret ?_
        refine scopeQ_ret ?_
        refine retQ_ret _ [segC p size sure S', slc tPf true S' ((a ++ (f, q) :: (f2, q2) :: b).drop (dropN ((a ++ (f, q) :: (f2, q2) :: b).map (·.1)) seq)), fsC ((a ++ (f, q) :: (f2, q2) :: b).drop (dropN ((a ++ (f, q) :: (f2, q2) :: b).map (·.1)) seq))] (.cons (RV_tmp rfl) .nil) ⟨S', by rw [hg2]; rfl, rfl⟩ ?_
        rw [hg2, show (a ++ (f, q) :: (f2, q2) :: b).take 0 ++ (a ++ (f, q) :: (f2, q2) :: b).drop (a.length) = (a ++ (f, q) :: (f2, q2) :: b).drop (a.length) from rfl]
        have hsp : Ent (fsC (a ++ (f, q) :: (f2, q2) :: b) :: [segC p size sure S', slc tPf true S' ((a ++ (f, q) :: (f2, q2) :: b).drop (a.length)), F]) (fsC ((a ++ (f, q) :: (f2, q2) :: b).drop (a.length)) :: [segC p size sure S', slc tPf true S' ((a ++ (f, q) :: (f2, q2) :: b).drop (a.length)), F]) := by
          have e : (a ++ (f, q) :: (f2, q2) :: b).map fileAt = ((a ++ (f, q) :: (f2, q2) :: b).take (a.length)).map fileAt ++ ((a ++ (f, q) :: (f2, q2) :: b).drop (a.length)).map fileAt := by rw [← List.map_append, List.take_append_drop]
          unfold fsC
          rw [e]
          exact Ent.stars_drop
        exact ((Ent.re [2, 1, 0, 3] rfl).trans hsp).trans (Ent.re [1, 2, 0, 3] rfl)
      · refine J_skip ?_
        refine blockQ_normal ?_
        refine seqQ_normal ?_
        refine J_region ?_
        refine L_q (Q_move rfl) rfl rfl rfl ?_
        refine L_q (Q_add rfl rfl (by first | exact IntWalk.i64_in _ (by omega) | exact IntWalk.u8_in _ (by omega) | exact IntWalk.u32_in _ (by omega) | exact IntWalk.u64_in _ (by omega) | rfl)) rfl rfl rfl ?_
        refine L_q (Q_assign rfl) rfl rfl rfl ?_
        refine JL_nil ?_
        refine blockQ_normal ?_
        refine seqQ_normal ?_
        refine J_region ?_
        refine L_q (Q_add rfl rfl (by first | exact IntWalk.i64_in _ (by omega) | exact IntWalk.u8_in _ (by omega) | exact IntWalk.u32_in _ (by omega) | exact IntWalk.u64_in _ (by omega) | rfl)) rfl rfl rfl ?_
        refine L_q (Q_move rfl) rfl rfl rfl ?_
        refine JL_nil ?_
        refine loopQ_normal (a.length + 1) ⟨by omega, ?_⟩ (by omega) ⟨rfl, rfl, rfl, rfl, rfl, rfl, trivial⟩ (Ent.refl _)
        rw [hg, show (a ++ (f, q) :: (f2, q2) :: b).drop (a.length + 1) = (f2, q2) :: b by simp]
        simp only [List.map_cons, dropN]
        rw [if_pos (by omega)]; omega
  · obtain rfl : k = ps.length := by omega
    have hg2 : dropN (ps.map (·.1)) seq = ps.length := by rw [hg, List.drop_length]; rfl
    refine J_exit ?_
    refine seqQ_exit ?_
    refine loopQ_exit ?_
    refine blockQ_hit ?_
    refine seqQ_normal ?_
    refine J_seq ?_
    refine J_region ?_
    refine L_q (Q_move rfl) rfl rfl rfl ?_
    refine L_q (Q_move rfl) rfl rfl rfl ?_
    refine L_q (Q_nilCheck rfl) rfl rfl rfl ?_
    refine L_q (Q_fa0 rfl) rfl rfl rfl ?_
    refine L_q (Q_ld 0 rfl rfl rfl rfl) rfl rfl rfl ?_
    refine L_q (Q_move rfl) rfl rfl rfl ?_
    refine L_o rfl rfl rfl (O_call [1] [0,2,3] (hdel ps.length (Nat.le_refl _)) rfl rfl ?_)
    rintro _ _ ⟨S', rfl, rfl⟩
    refine JL.norm ?_
    refine L_q (Q_nilCheck rfl) rfl rfl rfl ?_
    refine L_q (Q_fa0 rfl) rfl rfl rfl ?_
    refine L_s rfl rfl (O_st1 1 rfl rfl rfl rfl rfl ?_)
    refine JL.norm ?_
    refine JL_nil ?_
    refine seqQ_normal ?_
    refine J_seq ?_
    refine J_region ?_
    refine L_q (Q_move rfl) rfl rfl rfl ?_
    refine L_q (Q_assign rfl) rfl rfl rfl ?_
    refine JL_nil ?_
    refine seqQ_normal ?_
    refine J_ret ?_
    refine scopeQ_ret ?_
    refine retQ_ret _ [segC p size sure S', slc tPf true S' (ps.drop (dropN (ps.map (·.1)) seq)), fsC (ps.drop (dropN (ps.map (·.1)) seq))] (.cons (RV_tmp rfl) .nil) ⟨S', by rw [hg2]; rfl, rfl⟩ ?_
    rw [hg2, show ps.take 0 ++ ps.drop (ps.length) = ps.drop (ps.length) from rfl]
    have hsp : Ent (fsC ps :: [segC p size sure S', slc tPf true S' (ps.drop (ps.length)), F]) (fsC (ps.drop (ps.length)) :: [segC p size sure S', slc tPf true S' (ps.drop (ps.length)), F]) := by
      have e : ps.map fileAt = (ps.take (ps.length)).map fileAt ++ (ps.drop (ps.length)).map fileAt := by rw [← List.map_append, List.take_append_drop]
      unfold fsC
      rw [e]
      exact Ent.stars_drop
    exact ((Ent.re [2, 1, 0, 3] rfl).trans hsp).trans (Ent.re [1, 2, 0, 3] rfl)
end Go.Proofs
