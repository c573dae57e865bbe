/- A log in files: its numbers, a sync, a crash. -/
import Derived.Test.YtogjhcelmbhooaaSeg3
set_option autoImplicit false
namespace Go.Proofs
open Go.SL
abbrev segC (p size sure : Nat) (S : SV) : HProp := cel p [.int .i64 (size : Int), .int .i64 (sure : Int), S.v] 60
abbrev fsC (ps : List Fp) : HProp := stars (ps.map fileAt)
def onP (ps : List Fp) (u : Fl → Fl) : List Fp := match ps.getLast? with
  | none => []
  | some r => ps.dropLast ++ [(u r.1, r.2)]
theorem onP_snoc (a : List Fp) (f : Fl) (q : Nat) (u : Fl → Fl) : onP (a ++ [(f, q)]) u = a ++ [(u f, q)] := by simp [onP]
theorem onP_fst (ps : List Fp) (u : Fl → Fl) : (onP ps u).map (·.1) = onLast (ps.map (·.1)) u := by
  rcases last_cases ps with rfl | ⟨a, ⟨f, q⟩, rfl⟩
  · rfl
  · simp only [onP_snoc, List.map_append, List.map_cons, List.map_nil, onLast_snoc]
theorem onP_len (ps : List Fp) (u : Fl → Fl) : (onP ps u).length = ps.length := by
  rcases last_cases ps with rfl | ⟨a, ⟨f, q⟩, rfl⟩
  · rfl
  · rw [onP_snoc]; simp
theorem slc_ptrs {full : Bool} {S : SV} {ps qs : List Fp} (h : ps.map (·.2) = qs.map (·.2)) : slc tPf full S ps = slc tPf full S qs := by
  have e1 : tPf.flat ps = tPf.flat qs := by
    have : ∀ l : List Fp, tPf.flat l = (l.map (·.2)).map fun q => Value.pointer (some ⟨q, 0, none⟩) := by
      intro l
      induction l with
      | nil => rfl
      | cons r l ih => rw [tPf.flat_cons, ih]; rfl
    rw [this, this, h]
  have e2 : ps.length = qs.length := by have := congrArg List.length h; simpa using this
  unfold slc
  rw [e1, e2]
theorem slc_onP {full : Bool} {S : SV} (a : List Fp) (f f' : Fl) (q : Nat) : slc tPf full S (a ++ [(f, q)]) = slc tPf full S (a ++ [(f', q)]) := slc_ptrs (by simp)
attribute [local irreducible] J JL QOp JOp seqQ blockQ loopQ retQ slc cel hex star pur stars Does RV Ent pAt
attribute [local irreducible] fileAt diskAt
theorem snext_ok (E : World) (p size sure : Nat) (S : SV) (ps : List Fp) (hps : ps.length ≤ 16) (hn : nextOf (ps.map (·.1)) ≤ 10000000) :
    Does Try.prog E 22 [.pointer (some ⟨p, 0, none⟩)] [segC p size sure S, slc tPf true S ps, fsC ps] fun v L => v = .int .i64 (nextOf (ps.map (·.1)) : Int) ∧ L = [segC p size sure S, slc tPf true S ps, fsC ps] := by
  have hl := last_ok E p size sure S ps hps
  refine Does.of Try.func22 rfl Try.ntmps22 rfl rfl fun F => ?_
  refine J.norm ?_
  rcases last_cases ps with rfl | ⟨a, ⟨f, q⟩, rfl⟩
  · rw [show lastP [] = .pointer none from rfl] at hl
    refine J_seq ?_
    refine J_region ?_
    refine L_q (Q_assign rfl) rfl rfl rfl ?_
    refine JL_nil ?_
    refine seqQ_normal ?_
    refine J_seq ?_
    refine J_seq ?_
    refine J_region ?_
    refine L_q (Q_move rfl) rfl rfl rfl ?_
    refine L_o rfl rfl rfl (O_call [0,1] [2,3] hl rfl rfl ?_)
    rintro _ _ ⟨rfl, rfl⟩
    refine JL.norm ?_
    refine L_q (Q_assign rfl) rfl rfl rfl ?_
    refine JL_nil ?_
    refine seqQ_normal ?_
    refine J_seq ?_
    refine J_region ?_
    refine L_q (Q_move rfl) rfl rfl rfl ?_
    refine L_q ((Q_pneq rfl rfl).as (v' := .bool false) rfl) rfl rfl rfl ?_
    refine JL_nil ?_
    refine seqQ_normal ?_
    refine J_condF rfl ?_
    refine J_skip ?_
    refine seqQ_normal ?_
    refine J_seq ?_
    refine J_region ?_
    refine L_q (Q_assign rfl) rfl rfl rfl ?_
    refine JL_nil ?_
    refine seqQ_normal ?_
    refine J_ret ?_
    exact retQ_ret _ [segC p size sure S, slc tPf true S [], fsC []] (.cons (RV_tmp rfl) .nil) ⟨rfl, rfl⟩ (Ent.refl _)
  · rw [lastP_snoc] at hl
    rw [List.map_append, List.map_cons, List.map_nil, nextOf_snoc] at hn ⊢
    refine J_seq ?_
    refine J_region ?_
    refine L_q (Q_assign rfl) rfl rfl rfl ?_
    refine JL_nil ?_
    refine seqQ_normal ?_
    refine J_seq ?_
    refine J_seq ?_
    refine J_region ?_
    refine L_q (Q_move rfl) rfl rfl rfl ?_
    refine L_o rfl rfl rfl (O_call [0,1] [2,3] hl rfl rfl ?_)
    rintro _ _ ⟨rfl, rfl⟩
    refine JL.norm ?_
    refine L_q (Q_assign rfl) rfl rfl rfl ?_
    refine JL_nil ?_
    refine seqQ_normal ?_
    refine J_seq ?_
    refine J_region ?_
    refine L_q (Q_move rfl) rfl rfl rfl ?_
    refine L_q ((Q_pneq rfl rfl).as (v' := .bool true) rfl) rfl rfl rfl ?_
    refine JL_nil ?_
    refine seqQ_normal ?_
    refine J_condT rfl ?_
    refine J_seq ?_
    refine J.ent ((Ent.re [2, 0, 1, 3] rfl).trans (Ent.last_out fileAt a (f, q))) ?_
    refine J_region ?_
    refine L_q (Q_move rfl) rfl rfl rfl ?_
    refine L_o rfl rfl rfl (O_call [0] [1,2,3,4] (fnext_ok E f q hn) rfl rfl ?_)
    rintro _ _ ⟨rfl, rfl⟩
    refine JL.norm ?_
    refine L_q (Q_assign rfl) rfl rfl rfl ?_
    refine JL_nil ?_
    refine seqQ_normal ?_
    refine J_ret ?_
    refine seqQ_ret ?_
    exact retQ_ret _ [segC p size sure S, slc tPf true S (a ++ [(f, q)]), fsC (a ++ [(f, q)])] (.cons (RV_tmp rfl) .nil) ⟨rfl, rfl⟩ ((Ent.last_in fileAt a (f, q)).trans (Ent.re [1, 2, 0, 3] rfl))
theorem sync_ok (E : World) (p size sure : Nat) (S : SV) (ps : List Fp) (hps : ps.length ≤ 16) (hn : nextOf (ps.map (·.1)) ≤ 10000000) (hok : ∀ r ∈ ps, (text r.1.l).length ≤ 8192 ∧ r.1.s ≤ (text r.1.l).length) :
    Does Try.prog E 14 [.pointer (some ⟨p, 0, none⟩)] [segC p size sure S, slc tPf true S ps, fsC ps] fun v L => v = .tuple #[] ∧ L = [segC p size (if ps = [] then sure else nextOf (ps.map (·.1))) S, slc tPf true S (onP ps syncF), fsC (onP ps syncF)] := by
  have hl := last_ok E p size sure S ps hps
  refine Does.of Try.func14 rfl Try.ntmps14 rfl rfl fun F => ?_
  refine J.norm ?_
  rcases last_cases ps with rfl | ⟨a, ⟨f, q⟩, rfl⟩
  · rw [show lastP [] = .pointer none from rfl] at hl
    rw [if_pos rfl, show onP [] syncF = [] from rfl]
    refine J_seq ?_
    refine J_region ?_
    refine L_q (Q_move rfl) rfl rfl rfl ?_
    refine L_o rfl rfl rfl (O_call [0,1] [2,3] hl rfl rfl ?_)
    rintro _ _ ⟨rfl, rfl⟩
    refine JL.norm ?_
    refine L_q (Q_assign rfl) rfl rfl rfl ?_
    refine JL_nil ?_
    refine seqQ_normal ?_
    refine J_seq ?_
    refine J_region ?_
    refine L_q (Q_move rfl) rfl rfl rfl ?_
    refine L_q ((Q_pneq rfl rfl).as (v' := .bool false) rfl) rfl rfl rfl ?_
    refine JL_nil ?_
    refine seqQ_normal ?_
    refine J_condF rfl ?_
    refine J_skip ?_
    exact retQ_normal [] [segC p size sure S, slc tPf true S [], fsC []] .nil ⟨rfl, rfl⟩ (Ent.refl _)
  · rw [lastP_snoc] at hl
    rw [List.map_append, List.map_cons, List.map_nil, nextOf_snoc] at hn ⊢
    obtain ⟨hk1, hk2⟩ := hok (f, q) (by simp)
    rw [if_neg (by simp), onP_snoc]
    have hdo := fun dp => do_ok E dp f.d ⟨2, [], 0⟩ (by decide) ⟨hk2, Nat.le_trans hk1 (by decide)⟩
    have hd1 : (doD f.d ⟨2, [], 0⟩).2 = 0 := rfl
    have hd2 : (doD f.d ⟨2, [], 0⟩).1 = (syncF f).d := rfl
    rw [hd1, hd2] at hdo
    refine J_seq ?_
    refine J_region ?_
    refine L_q (Q_move rfl) rfl rfl rfl ?_
    refine L_o rfl rfl rfl (O_call [0,1] [2,3] hl rfl rfl ?_)
    rintro _ _ ⟨rfl, rfl⟩
    refine JL.norm ?_
    refine L_q (Q_assign rfl) rfl rfl rfl ?_
    refine JL_nil ?_
    refine seqQ_normal ?_
    refine J_seq ?_
    refine J_region ?_
    refine L_q (Q_move rfl) rfl rfl rfl ?_
    refine L_q ((Q_pneq rfl rfl).as (v' := .bool true) rfl) rfl rfl rfl ?_
    refine JL_nil ?_
    refine seqQ_normal ?_
    refine J_condT rfl ?_
    refine J_seq ?_
    refine J.ent ((Ent.re [2, 0, 1, 3] rfl).trans (Ent.last_out fileAt a (f, q))) ?_
    refine J_file fun S1 dp => ?_
    refine J_region ?_
    refine L_q (Q_move rfl) rfl rfl rfl ?_
    refine L_q (Q_nilCheck rfl) rfl rfl rfl ?_
    refine L_q (Q_fa0 rfl) rfl rfl rfl ?_
    refine L_q (Q_ld 0 rfl rfl rfl rfl) rfl rfl rfl ?_
    refine L_q (Q_build rfl) rfl rfl rfl ?_
    refine L_o rfl rfl rfl (O_call [2] [0,1,3,4,5,6] (hdo dp) rfl rfl ?_)
    rintro _ _ ⟨rfl, rfl⟩
    refine JL.norm ?_
    refine JL_nil ?_
    refine seqQ_normal ?_
    refine J.ent ((Ent.re [1, 2, 0, 3, 4, 5, 6] rfl).trans (fileAt_mk (f := syncF f) rfl rfl rfl rfl)) ?_
    refine J_region ?_
    refine L_q (Q_move rfl) rfl rfl rfl ?_
    refine L_q (Q_move rfl) rfl rfl rfl ?_
    refine L_o rfl rfl rfl (O_call [0] [1,2,3,4] (fnext_ok E (syncF f) q hn) rfl rfl ?_)
    rintro _ _ ⟨rfl, rfl⟩
    refine JL.norm ?_
    refine L_q (Q_nilCheck rfl) rfl rfl rfl ?_
    refine L_q (Q_fa0 rfl) rfl rfl rfl ?_
    refine L_s rfl rfl (O_st1 2 rfl rfl rfl rfl rfl ?_)
    refine JL.norm ?_
    refine JL_nil ?_
    refine retQ_normal [] [segC p size f.next S, slc tPf true S (a ++ [(syncF f, q)]), fsC (a ++ [(syncF f, q)])] .nil ⟨rfl, rfl⟩ ?_
    rw [slc_onP a f (syncF f) q]
    exact (Ent.last_in fileAt a (syncF f, q)).trans (Ent.re [1, 2, 0, 3] rfl)
end Go.Proofs
