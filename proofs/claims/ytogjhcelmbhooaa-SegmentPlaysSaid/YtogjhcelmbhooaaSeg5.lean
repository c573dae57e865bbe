/- A log in files: a crash, its ends, its records. -/
import Derived.Test.YtogjhcelmbhooaaSeg4
set_option autoImplicit false
namespace Go.Proofs
open Go.SL
attribute [local irreducible] J JL QOp JOp seqQ blockQ loopQ retQ slc cel hex star pur stars Does RV Ent pAt
attribute [local irreducible] fileAt diskAt
theorem crash_ok (E : World) (p size sure keep : Nat) (S : SV) (ps : List Fp) (hk : keep < 2 ^ 64) (hps : ps.length ≤ 16) (hn : nextOf (onLast (ps.map (·.1)) fun f => crashF f keep) ≤ 10000000) (hok : ∀ r ∈ ps, (text r.1.l).length ≤ 8192 ∧ r.1.s ≤ (text r.1.l).length) :
    Does Try.prog E 18 [.pointer (some ⟨p, 0, none⟩), .int .u64 (keep : Int)] [segC p size sure S, slc tPf true S ps, fsC ps] fun v L => v = .tuple #[] ∧
      L = [segC p size (if ps = [] then sure else nextOf (onLast (ps.map (·.1)) fun f => crashF f keep)) S, slc tPf true S (onP ps fun f => crashF f keep), fsC (onP ps fun f => crashF f keep)] := by
  have hl := last_ok E p size sure S ps hps
  refine Does.of Try.func18 rfl Try.ntmps18 rfl rfl fun F => ?_
  refine J.norm ?_
  rcases last_cases ps with rfl | ⟨a, ⟨f, q⟩, rfl⟩
  · rw [show lastP [] = .pointer none from rfl] at hl
    rw [if_pos rfl, show (onP [] fun f => crashF f keep) = [] from rfl]
    refine J_seq ?_
    refine J_region ?_
    refine L_q (Q_move rfl) rfl rfl rfl ?_
    refine L_o rfl rfl rfl (O_call [0,1] [2,3] hl rfl rfl ?_)
    rintro _ _ ⟨rfl, rfl⟩
    refine JL.norm ?_
    refine L_q (Q_assign rfl) rfl rfl rfl ?_
    refine JL_nil ?_
    refine seqQ_normal ?_
    refine J_seq ?_
    refine J_seq ?_
    refine J_region ?_
    refine L_q (Q_move rfl) rfl rfl rfl ?_
    refine L_q ((Q_peql rfl rfl).as (v' := .bool true) rfl) rfl rfl rfl ?_
    refine JL_nil ?_
    refine seqQ_normal ?_
    refine J_condT rfl ?_
    refine J_ret ?_
    refine seqQ_ret ?_
    exact retQ_ret [] [segC p size sure S, slc tPf true S [], fsC []] .nil ⟨rfl, rfl⟩ (Ent.refl _)
  · rw [lastP_snoc] at hl
    rw [List.map_append, List.map_cons, List.map_nil, onLast_snoc, nextOf_snoc] at hn ⊢
    obtain ⟨hk1, hk2⟩ := hok (f, q) (by simp)
    rw [if_neg (by simp), onP_snoc]
    have hdo := fun dp => do_ok E dp f.d ⟨3, [], keep⟩ hk ⟨hk2, Nat.le_trans hk1 (by decide)⟩
    obtain ⟨t1, t2⟩ := tear_length f.d keep hk2
    have t3 : (tear f.d keep).length ≤ 8192 := Nat.le_trans t2 hk1
    have hd1 : (doD f.d ⟨3, [], keep⟩).2 = 0 := rfl
    have hd2 : (doD f.d ⟨3, [], keep⟩).1 = ⟨tear f.d keep, (tear f.d keep).length⟩ := rfl
    rw [hd1, hd2] at hdo
    have hix := fun dp S1 => index_ok E q dp f.first S1 (ends f.l) ⟨tear f.d keep, (tear f.d keep).length⟩ t3 rfl
    refine J_seq ?_
    refine J_region ?_
    refine L_q (Q_move rfl) rfl rfl rfl ?_
    refine L_o rfl rfl rfl (O_call [0,1] [2,3] hl rfl rfl ?_)
    rintro _ _ ⟨rfl, rfl⟩
    refine JL.norm ?_
    refine L_q (Q_assign rfl) rfl rfl rfl ?_
    refine JL_nil ?_
    refine seqQ_normal ?_
    refine J_seq ?_
    refine J_seq ?_
    refine J_region ?_
    refine L_q (Q_move rfl) rfl rfl rfl ?_
    refine L_q ((Q_peql rfl rfl).as (v' := .bool false) rfl) rfl rfl rfl ?_
    refine JL_nil ?_
    refine seqQ_normal ?_
    refine J_condF rfl ?_
    refine J_skip ?_
    refine seqQ_normal ?_
    refine J_seq ?_
    refine J.ent ((Ent.re [2, 0, 1, 3] rfl).trans (Ent.last_out fileAt a (f, q))) ?_
    refine J_file fun S1 dp => ?_
    refine J_region ?_
    refine L_q (Q_move rfl) rfl rfl rfl ?_
    refine L_q (Q_nilCheck rfl) rfl rfl rfl ?_
    refine L_q (Q_fa0 rfl) rfl rfl rfl ?_
    refine L_q (Q_ld 0 rfl rfl rfl rfl) rfl rfl rfl ?_
    refine L_q (Q_move rfl) rfl rfl rfl ?_
    refine L_q (Q_build rfl) rfl rfl rfl ?_
    refine L_o rfl rfl rfl (O_call [2] [0,1,3,4,5,6] (hdo dp) rfl rfl ?_)
    rintro _ _ ⟨rfl, rfl⟩
    refine JL.norm ?_
    refine JL_nil ?_
    refine seqQ_normal ?_
    refine J_seq ?_
    refine J_region ?_
    refine L_q (Q_move rfl) rfl rfl rfl ?_
    refine L_o rfl rfl rfl (O_call [1,2,0] [3,4,5,6] (hix dp S1) rfl rfl ?_)
    rintro _ _ ⟨rfl, rfl⟩
    refine JL.norm ?_
    refine JL_nil ?_
    refine seqQ_normal ?_
    refine J_region ?_
    refine L_q (Q_move rfl) rfl rfl rfl ?_
    refine L_q (Q_move rfl) rfl rfl rfl ?_
    refine L_o rfl rfl rfl (O_call [0] [1,2,3,4] (fnext_ok E (crashF f keep) q hn) rfl rfl ?_)
    rintro _ _ ⟨rfl, rfl⟩
    refine JL.norm ?_
    refine L_q (Q_nilCheck rfl) rfl rfl rfl ?_
    refine L_q (Q_fa0 rfl) rfl rfl rfl ?_
    refine L_s rfl rfl (O_st1 2 rfl rfl rfl rfl rfl ?_)
    refine JL.norm ?_
    refine JL_nil ?_
    refine retQ_normal [] [segC p size (crashF f keep).next S, slc tPf true S (a ++ [(crashF f keep, q)]), fsC (a ++ [(crashF f keep, q)])] .nil ⟨rfl, rfl⟩ ?_
    rw [slc_onP a f (crashF f keep) q]
    exact (Ent.last_in fileAt a (crashF f keep, q)).trans (Ent.re [1, 2, 0, 3] rfl)
theorem sfirst_ok (E : World) (p size sure : Nat) (S : SV) (ps : List Fp) (hps : ps.length ≤ 16) :
    Does Try.prog E 20 [.pointer (some ⟨p, 0, none⟩)] [segC p size sure S, slc tPf true S ps, fsC ps] fun v L => v = .int .i64 (firstOf (ps.map (·.1)) : Int) ∧ L = [segC p size sure S, slc tPf true S ps, fsC ps] := by
  refine Does.of Try.func20 rfl Try.ntmps20 rfl rfl fun F => ?_
  refine J.norm ?_
  cases ps with
  | nil =>
    refine J_seq ?_
    refine J_region ?_
    refine L_q (Q_assign rfl) rfl rfl rfl ?_
    refine JL_nil ?_
    refine seqQ_normal ?_
    refine J_seq ?_
    refine J_seq ?_
    refine J_region ?_
    refine L_q (Q_move rfl) rfl rfl rfl ?_
    refine L_q (Q_peql rfl rfl) rfl rfl rfl ?_
    refine L_q (Q_move rfl) rfl rfl rfl ?_
    refine L_q (Q_move rfl) rfl rfl rfl ?_
    refine L_q (Q_nilCheck rfl) rfl rfl rfl ?_
    refine L_q (Q_fa0 rfl) rfl rfl rfl ?_
    refine L_q (Q_ld 0 rfl rfl rfl rfl) rfl rfl rfl ?_
    refine L_q (Q_lenAt 1 rfl rfl) rfl rfl rfl ?_
    refine L_q ((Q_eql rfl rfl).as (v' := .bool true) rfl) rfl rfl rfl ?_
    refine L_q (Q_pickF rfl rfl) rfl rfl rfl ?_
    refine JL_nil ?_
    refine seqQ_normal ?_
    refine J_condT rfl ?_
    refine J_seq ?_
    refine J_region ?_
    refine L_q (Q_assign rfl) rfl rfl rfl ?_
    refine JL_nil ?_
    refine seqQ_normal ?_
    refine J_ret ?_
    refine seqQ_ret ?_
    exact retQ_ret _ [segC p size sure S, slc tPf true S [], fsC []] (.cons (RV_tmp rfl) .nil) ⟨rfl, rfl⟩ (Ent.refl _)
  | cons r ps =>
    obtain ⟨f, q⟩ := r
    refine J_seq ?_
    refine J_region ?_
    refine L_q (Q_assign rfl) rfl rfl rfl ?_
    refine JL_nil ?_
    refine seqQ_normal ?_
    refine J_seq ?_
    refine J_seq ?_
    refine J_region ?_
    refine L_q (Q_move rfl) rfl rfl rfl ?_
    refine L_q (Q_peql rfl rfl) rfl rfl rfl ?_
    refine L_q (Q_move rfl) rfl rfl rfl ?_
    refine L_q (Q_move rfl) rfl rfl rfl ?_
    refine L_q (Q_nilCheck rfl) rfl rfl rfl ?_
    refine L_q (Q_fa0 rfl) rfl rfl rfl ?_
    refine L_q (Q_ld 0 rfl rfl rfl rfl) rfl rfl rfl ?_
    refine L_q (Q_lenAt 1 rfl rfl) rfl rfl rfl ?_
    refine L_q ((Q_eql rfl rfl).as (v' := .bool false) (congrArg Value.bool (decide_eq_false (by simp; omega)))) rfl rfl rfl ?_
    refine L_q (Q_pickF rfl rfl) rfl rfl rfl ?_
    refine JL_nil ?_
    refine seqQ_normal ?_
    refine J_condF rfl ?_
    refine J_skip ?_
    refine seqQ_normal ?_
    refine J_seq ?_
    refine J.ent ((Ent.re [2, 0, 1, 3] rfl).trans (Ent.mid_out fileAt [] (f, q) ps)) ?_
    refine J_file fun S1 dp => ?_
    refine J_region ?_
    refine L_q (Q_move rfl) rfl rfl rfl ?_
    refine L_q (Q_nilCheck rfl) rfl rfl rfl ?_
    refine L_q (Q_fa0 rfl) rfl rfl rfl ?_
    refine L_q (Q_ld 4 rfl rfl rfl rfl) rfl rfl rfl ?_
    refine L_q (Q_ixAt 5 0 rfl rfl rfl rfl (by simp) rfl) rfl rfl rfl ?_
    refine L_q (Q_ldEAt 5 0 0 (v := .pointer (some ⟨q, 0, none⟩)) rfl rfl rfl rfl (by simp) (by decide) rfl) rfl rfl rfl ?_
    refine L_q (Q_nilCheck rfl) rfl rfl rfl ?_
    refine L_q (Q_fa0 rfl) rfl rfl rfl ?_
    refine L_q (Q_ld 0 rfl rfl rfl rfl) rfl rfl rfl ?_
    refine L_q (Q_assign rfl) rfl rfl rfl ?_
    refine JL_nil ?_
    refine seqQ_normal ?_
    refine J_ret ?_
    exact retQ_ret _ [segC p size sure S, slc tPf true S ((f, q) :: ps), fsC ((f, q) :: ps)] (.cons (RV_tmp rfl) .nil) ⟨rfl, rfl⟩ (((fileAt_mk rfl rfl rfl rfl).trans (Ent.mid_in fileAt [] (f, q) ps)).trans (Ent.re [1, 2, 0, 3] rfl))
theorem ssure_ok (E : World) (p size sure : Nat) (S : SV) : Does Try.prog E 24 [.pointer (some ⟨p, 0, none⟩)] [segC p size sure S] fun v L => v = .int .i64 (sure : Int) ∧ L = [segC p size sure S] := by
  refine Does.of Try.func24 rfl Try.ntmps24 rfl rfl fun F => ?_
  refine J.norm ?_
  refine J_seq ?_
  refine J_region ?_
  refine L_q (Q_assign rfl) rfl rfl rfl ?_
  refine JL_nil ?_
  refine seqQ_normal ?_
  refine J_seq ?_
  refine J_seq ?_
  refine J_region ?_
  refine L_q (Q_move rfl) rfl rfl rfl ?_
  refine L_q (Q_peql rfl rfl) rfl rfl rfl ?_
  refine JL_nil ?_
  refine seqQ_normal ?_
  refine J_condF rfl ?_
  refine J_skip ?_
  refine seqQ_normal ?_
  refine J_seq ?_
  refine J_region ?_
  refine L_q (Q_move rfl) rfl rfl rfl ?_
  refine L_q (Q_nilCheck rfl) rfl rfl rfl ?_
  refine L_q (Q_fa0 rfl) rfl rfl rfl ?_
  refine L_q (Q_ld 0 rfl rfl rfl rfl) rfl rfl rfl ?_
  refine L_q (Q_assign rfl) rfl rfl rfl ?_
  refine JL_nil ?_
  refine seqQ_normal ?_
  refine J_ret ?_
  exact retQ_ret _ [segC p size sure S] (.cons (RV_tmp rfl) .nil) ⟨rfl, rfl⟩ (Ent.refl _)
theorem sfiles_ok (E : World) (p size sure : Nat) (S : SV) (ps : List Fp) : Does Try.prog E 25 [.pointer (some ⟨p, 0, none⟩)] [segC p size sure S, slc tPf true S ps] fun v L => v = .int .i64 (ps.length : Int) ∧ L = [segC p size sure S, slc tPf true S ps] := by
  refine Does.of Try.func25 rfl Try.ntmps25 rfl rfl fun F => ?_
  refine J.norm ?_
  refine J_seq ?_
  refine J_region ?_
  refine L_q (Q_assign rfl) rfl rfl rfl ?_
  refine JL_nil ?_
  refine seqQ_normal ?_
  refine J_seq ?_
  refine J_seq ?_
  refine J_region ?_
  refine L_q (Q_move rfl) rfl rfl rfl ?_
  refine L_q (Q_peql rfl rfl) rfl rfl rfl ?_
  refine JL_nil ?_
  refine seqQ_normal ?_
  refine J_condF rfl ?_
  refine J_skip ?_
  refine seqQ_normal ?_
  refine J_seq ?_
  refine J_region ?_
  refine L_q (Q_move rfl) rfl rfl rfl ?_
  refine L_q (Q_nilCheck rfl) rfl rfl rfl ?_
  refine L_q (Q_fa0 rfl) rfl rfl rfl ?_
  refine L_q (Q_ld 0 rfl rfl rfl rfl) rfl rfl rfl ?_
  refine L_q (Q_lenAt 1 rfl rfl) rfl rfl rfl ?_
  refine L_q (Q_assign rfl) rfl rfl rfl ?_
  refine JL_nil ?_
  refine seqQ_normal ?_
  refine J_ret ?_
  exact retQ_ret _ [segC p size sure S, slc tPf true S ps] (.cons (RV_tmp rfl) .nil) ⟨rfl, rfl⟩ (Ent.refl _)
theorem fnext_open (E : World) (f : Fl) (q dp : Nat) (S : SV) (h : f.next ≤ 10000000) : Does Try.prog E 35 [.pointer (some ⟨q, 0, none⟩)] [cel q [.int .i64 (f.first : Int), S.v, .pointer (some ⟨dp, 0, none⟩)] 78, slc tI true S (ends f.l)] fun v L => v = .int .i64 (f.next : Int) ∧ L = [cel q [.int .i64 (f.first : Int), S.v, .pointer (some ⟨dp, 0, none⟩)] 78, slc tI true S (ends f.l)] := by
  have h' : f.first + f.l.length ≤ 10000000 := h
  have hl := ends_len f.l
  refine Does.of Try.func35 rfl Try.ntmps35 rfl rfl fun F => ?_
  refine J.norm ?_
  refine J_seq ?_
  refine J_region ?_
  refine L_q (Q_assign rfl) rfl rfl rfl ?_
  refine JL_nil ?_
  refine seqQ_normal ?_
  refine J_seq ?_
  refine J_drawL [0, 1, 2, 3, 4, 5, 6, 7, 8, 9, 10] (.quiet 0 (.quiet 1 (.quiet 2 (.quiet 3 (.quiet 4 (.quiet 5 (.quiet 6 (.quiet 7 (.quiet 8 (.quiet 9 (.quiet 10 .done))))))))))) Try.mixed (by kernel_rfl) (by kernel_rfl) (by repeat (first | exact retQ_noP | refine seqQ_noP ?_ | refine blockQ_noP ?_ | refine loopQ_noP ?_ | refine scopeQ_noP ?_)) ?_
  refine S_q (Ent.refl _) rfl (Q_move rfl) rfl rfl rfl ?_
  refine S_q (Ent.refl _) rfl (Q_nilCheck rfl) rfl rfl rfl ?_
  refine S_q (Ent.refl _) rfl (Q_fa0 rfl) rfl rfl rfl ?_
  refine S_q (Ent.refl _) rfl (Q_ld 0 rfl rfl rfl rfl) rfl rfl rfl ?_
  refine S_q (Ent.refl _) rfl (Q_move rfl) rfl rfl rfl ?_
  refine S_q (Ent.refl _) rfl (Q_nilCheck rfl) rfl rfl rfl ?_
  refine S_q (Ent.refl _) rfl (Q_fa0 rfl) rfl rfl rfl ?_
  refine S_q (Ent.refl _) rfl (Q_ld 0 rfl rfl rfl rfl) rfl rfl rfl ?_
  refine S_q (Ent.refl _) rfl (Q_lenAt 1 rfl rfl) rfl rfl rfl ?_
  refine S_q (Ent.refl _) rfl (Q_add rfl rfl (by first | exact IntWalk.i64_in _ (by omega) | exact IntWalk.u8_in _ (by omega) | exact IntWalk.u32_in _ (by omega) | exact IntWalk.u64_in _ (by omega) | rfl)) rfl rfl rfl ?_
  refine S_q (Ent.refl _) rfl (Q_assign rfl) rfl rfl rfl ?_
  refine S_nil ?_
  refine seqQ_normal ?_
  refine J_ret ?_
  refine retQ_ret _ [cel q [.int .i64 (f.first : Int), S.v, .pointer (some ⟨dp, 0, none⟩)] 78, slc tI true S (ends f.l)] (.cons (RV_tmp rfl) .nil) ⟨?_, rfl⟩ (Ent.refl _)
  simp only [Fl.next, hl, oneOf]
  congr 1
theorem split_at {α : Type} (l : List α) (k : Nat) (h : k < l.length) : ∃ a x b, l = a ++ x :: b ∧ a.length = k := ⟨l.take k, l[k], l.drop (k + 1), by
  rw [← List.drop_eq_getElem_cons h, List.take_append_drop], by simp; omega⟩
theorem get_mid {α : Type} (a : List α) (x : α) (b : List α) (h : a.length < (a ++ x :: b).length) : (a ++ x :: b)[a.length] = x := by simp
def getV (fs : List Fl) (i : Int) : Value := .tuple #[str (getL fs i).1, .int .i64 (getL fs i).2]
theorem sget_ok (E : World) (p size sure : Nat) (S : SV) (ps : List Fp) (i : Int) (hps : ps.length ≤ 16) (hok : ∀ r ∈ ps, (text r.1.l).length ≤ 8192 ∧ (∀ t ∈ r.1.l, t.length ≤ 4096) ∧ r.1.next ≤ 10000000) :
    Does Try.prog E 26 [.pointer (some ⟨p, 0, none⟩), .int .i64 i] [segC p size sure S, slc tPf true S ps, fsC ps] fun v L => v = getV (ps.map (·.1)) i ∧ L = [segC p size sure S, slc tPf true S ps, fsC ps] := by
  refine Does.of Try.func26 rfl Try.ntmps26 rfl rfl fun F => ?_
  refine J.norm ?_
  refine J_seq ?_
  refine J_region ?_
  refine L_q (Q_assign rfl) rfl rfl rfl ?_
  refine L_q (Q_assign rfl) rfl rfl rfl ?_
  refine JL_nil ?_
  refine seqQ_normal ?_
  refine J_seq ?_
  refine J_seq ?_
  refine J_region ?_
  refine L_q (Q_move rfl) rfl rfl rfl ?_
  refine L_q ((Q_pneq rfl rfl).as (v' := .bool true) rfl) rfl rfl rfl ?_
  refine JL_nil ?_
  refine seqQ_normal ?_
  refine J_condT rfl ?_
  refine J_seq ?_
  refine J_region ?_
  refine L_q (Q_move rfl) rfl rfl rfl ?_
  refine L_q (Q_nilCheck rfl) rfl rfl rfl ?_
  refine L_q (Q_fa0 rfl) rfl rfl rfl ?_
  refine L_q (Q_ld 0 rfl rfl rfl rfl) rfl rfl rfl ?_
  refine L_q (Q_lenAt 1 rfl rfl) rfl rfl rfl ?_
  refine L_q (Q_move rfl) rfl rfl rfl ?_
  refine JL_nil ?_
  refine seqQ_normal ?_
  refine J_block ?_
  refine J_loop (fun k : Nat => k ≤ ps.length ∧ getL (ps.map (·.1)) i = getL ((ps.drop k).map (·.1)) i) (fun k => [(0, .pointer (some ⟨p, 0, none⟩)), (1, .int .i64 i), (13, S.v), (14, .int .i64 (ps.length : Int)), (15, .int .i64 (k : Int))])
    (fun _ => [segC p size sure S, slc tPf true S ps, fsC ps, F]) (fun k => ps.length - k) 0 ⟨by simp, by simp⟩ ⟨rfl, rfl, rfl, rfl, rfl, trivial⟩ (Ent.refl _) ?_
  rintro k ⟨hk, hg⟩
  refine J_seq ?_
  refine J_region ?_
  refine L_q (Q_lss rfl rfl) rfl rfl rfl ?_
  refine JL_nil ?_
  refine seqQ_normal ?_
  refine J_seq ?_
  refine J_condD rfl (fun h => ?_) (fun h => ?_)
  · have hlt : k < ps.length := by omega
    obtain ⟨a, ⟨f, q⟩, b, rfl, rfl⟩ := split_at ps k hlt
    have hgm := get_mid a (f, q) b hlt
    obtain ⟨o1, o2, o3⟩ := hok (f, q) (by simp)
    have o3' : f.next ≤ 10000000 := o3
    have hfn : f.next = f.first + f.l.length := rfl
    rw [List.drop_left] at hg
    have hg' : getL ((a ++ (f, q) :: b).map (·.1)) i = if (f.first : Int) ≤ i ∧ i < (f.next : Int) then (f.l.getD (i - f.first).toNat [], 0) else getL (b.map (·.1)) i := hg
    refine J_skip ?_
    refine seqQ_normal ?_
    refine J_seq ?_
    refine J_block ?_
    refine J_seq ?_
    refine J_region ?_
    refine L_q (Q_ixAt 1 a.length rfl rfl rfl rfl hlt rfl) rfl rfl rfl ?_
    refine L_q (Q_ldEAt 1 a.length 0 (v := .pointer (some ⟨q, 0, none⟩)) rfl rfl rfl rfl hlt (by decide) (by rw [hgm]; rfl)) rfl rfl rfl ?_
    refine L_q (Q_assign rfl) rfl rfl rfl ?_
    refine JL_nil ?_
    refine seqQ_normal ?_
    refine J_seq ?_
    refine J.ent ((Ent.re [2, 0, 1, 3] rfl).trans (Ent.mid_out fileAt a (f, q) b)) ?_
    refine J_file fun S1 dp => ?_
    by_cases c1 : (f.first : Int) ≤ i
    · skip
      refine J_region ?_
      refine L_q (Q_move rfl) rfl rfl rfl ?_
      refine L_q (Q_move rfl) rfl rfl rfl ?_
      refine L_q (Q_nilCheck rfl) rfl rfl rfl ?_
      refine L_q (Q_fa0 rfl) rfl rfl rfl ?_
      refine L_q (Q_ld 0 rfl rfl rfl rfl) rfl rfl rfl ?_
      refine L_q ((Q_geq rfl rfl).as (v' := .bool true) (congrArg Value.bool (decide_eq_true c1))) rfl rfl rfl ?_
      refine L_q (Q_move rfl) rfl rfl rfl ?_
      refine L_q (Q_move rfl) rfl rfl rfl ?_
      refine L_q (Q_move rfl) rfl rfl rfl ?_
      refine L_o rfl rfl rfl (O_call [0,1] [2,3,4,5,6] (fnext_open E f q dp S1 o3') rfl rfl ?_)
      rintro _ _ ⟨rfl, rfl⟩
      refine JL.norm ?_
      refine L_q (Q_lss rfl rfl) rfl rfl rfl ?_
      refine L_q (Q_pickT rfl rfl) rfl rfl rfl ?_
      refine JL_nil ?_
      refine seqQ_normal ?_
      refine J_condD rfl (fun c2 => ?_) (fun c2 => ?_)
      · obtain ⟨j, hj⟩ : ∃ j : Nat, i = ((f.first + j : Nat) : Int) := ⟨(i - f.first).toNat, by omega⟩
        have hjl : j < f.l.length := by omega
        have e : getV ((a ++ (f, q) :: b).map (·.1)) i = .tuple #[str f.l[j], .int .i64 0] := by
          unfold getV
          rw [hg', if_pos ⟨c1, c2⟩, show (i - (f.first : Int)).toNat = j by omega]
          simp [List.getD_eq_getElem?_getD, List.getElem?_eq_getElem hjl]
        rw [e]
        refine J_seq ?_
        refine J_region ?_
        refine L_q (Q_move rfl) rfl rfl rfl ?_
        refine L_q (Q_move rfl) rfl rfl rfl ?_
        refine L_q (Q_move rfl) rfl rfl rfl ?_
        refine L_q (Q_nilCheck rfl) rfl rfl rfl ?_
        refine L_q (Q_fa0 rfl) rfl rfl rfl ?_
        refine L_q (Q_ld 0 rfl rfl rfl rfl) rfl rfl rfl ?_
        refine L_q ((Q_sub (r := (j : Int)) rfl rfl (by rw [show i - (f.first : Int) = (j : Int) by omega]; exact IntWalk.i64_in _ (by omega)))) rfl rfl rfl ?_
        refine JL.ent (fileAt_mk rfl rfl rfl rfl) ?_
        refine L_o rfl rfl rfl (O_call [0] [1,2,3,4] (fget_ok E f q j hjl o1 o2) rfl rfl ?_)
        rintro _ _ ⟨rfl, rfl⟩
        refine JL.norm ?_
        refine L_q (Q_assign rfl) rfl rfl rfl ?_
        refine L_q (Q_assign rfl) rfl rfl rfl ?_
        refine JL_nil ?_
        refine seqQ_normal ?_
        refine J_ret ?_
        refine blockQ_ret ?_
        refine seqQ_ret ?_
        refine loopQ_ret ?_
        refine blockQ_ret ?_
        refine seqQ_ret ?_
        exact retQ_ret _ [segC p size sure S, slc tPf true S (a ++ (f, q) :: b), fsC (a ++ (f, q) :: b)] (.cons (RV_tmp rfl) (.cons (RV_tmp rfl) .nil)) ⟨rfl, rfl⟩ ((Ent.mid_in fileAt a (f, q) b).trans (Ent.re [1, 2, 0, 3] rfl))
      · rw [if_neg (by omega)] at hg'
        refine J_skip ?_
        refine blockQ_normal ?_
        refine seqQ_normal ?_
        refine J_region ?_
        refine L_q (Q_add rfl rfl (by first | exact IntWalk.i64_in _ (by omega) | exact IntWalk.u8_in _ (by omega) | exact IntWalk.u32_in _ (by omega) | exact IntWalk.u64_in _ (by omega) | rfl)) rfl rfl rfl ?_
        refine L_q (Q_move rfl) rfl rfl rfl ?_
        refine JL_nil ?_
        refine loopQ_normal (a.length + 1) ⟨by omega, ?_⟩ (by omega) ⟨rfl, rfl, rfl, rfl, rfl, trivial⟩ (((fileAt_mk rfl rfl rfl rfl).trans (Ent.mid_in fileAt a (f, q) b)).trans (Ent.re [1, 2, 0, 3] rfl))
        rw [hg']; simp
    · rw [if_neg (by omega)] at hg'
      refine J_region ?_
      refine L_q (Q_move rfl) rfl rfl rfl ?_
      refine L_q (Q_move rfl) rfl rfl rfl ?_
      refine L_q (Q_nilCheck rfl) rfl rfl rfl ?_
      refine L_q (Q_fa0 rfl) rfl rfl rfl ?_
      refine L_q (Q_ld 0 rfl rfl rfl rfl) rfl rfl rfl ?_
      refine L_q ((Q_geq rfl rfl).as (v' := .bool false) (congrArg Value.bool (decide_eq_false c1))) rfl rfl rfl ?_
      refine L_q (Q_move rfl) rfl rfl rfl ?_
      refine L_n rfl rfl rfl ?_
      refine L_n rfl rfl rfl ?_
      refine L_n rfl rfl rfl ?_
      refine L_n rfl rfl rfl ?_
      refine L_q (Q_pickF rfl rfl) rfl rfl rfl ?_
      refine JL_nil ?_
      refine seqQ_normal ?_
      refine J_condF rfl ?_
      refine J_skip ?_
      refine blockQ_normal ?_
      refine seqQ_normal ?_
      refine J_region ?_
      refine L_q (Q_add rfl rfl (by first | exact IntWalk.i64_in _ (by omega) | exact IntWalk.u8_in _ (by omega) | exact IntWalk.u32_in _ (by omega) | exact IntWalk.u64_in _ (by omega) | rfl)) rfl rfl rfl ?_
      refine L_q (Q_move rfl) rfl rfl rfl ?_
      refine JL_nil ?_
      refine loopQ_normal (a.length + 1) ⟨by omega, ?_⟩ (by omega) ⟨rfl, rfl, rfl, rfl, rfl, trivial⟩ (((fileAt_mk rfl rfl rfl rfl).trans (Ent.mid_in fileAt a (f, q) b)).trans (Ent.re [1, 2, 0, 3] rfl))
      rw [hg']; simp
  · obtain rfl : k = ps.length := by omega
    rw [List.drop_length] at hg
    have e : getV (ps.map (·.1)) i = .tuple #[str [], .int .i64 9] := by unfold getV; rw [hg]; rfl
    rw [e]
    refine J_exit ?_
    refine seqQ_exit ?_
    refine loopQ_exit ?_
    refine blockQ_hit ?_
    refine seqQ_normal ?_
    refine J_seq ?_
    refine J_region ?_
    refine L_q (Q_assign rfl) rfl rfl rfl ?_
    refine L_q (Q_assign rfl) rfl rfl rfl ?_
    refine JL_nil ?_
    refine seqQ_normal ?_
    refine J_ret ?_
    exact retQ_ret _ [segC p size sure S, slc tPf true S ps, fsC ps] (.cons (RV_tmp rfl) (.cons (RV_tmp rfl) .nil)) ⟨rfl, rfl⟩ (Ent.refl _)
end Go.Proofs
