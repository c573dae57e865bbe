/- Part 22 of the texts below the row: Fol50, Law50b. -/
import Derived.Test.YtgifbeecmidciaaGreatM21
/- The law TopFollows: its walk. -/
set_option autoImplicit false
namespace Go.Proofs
open Go.SL Go.Proofs.Bt
structure To where
 f : Int
 h : Int
 v : Ky
abbrev toV (d : To) : List Value := [.int .i64 d.f, .int .i64 d.h, str d.v]
def tTo : Ty To := ⟨36, 3, toV, fun _ => rfl, by decide, fun a v hv => by simp [toV] at hv; rcases hv with rfl | rfl | rfl <;> rfl⟩
instance : TyI Tryz.prog tTo.e 3 (.agg #[.int .i64 0, .int .i64 0, .string ⟨#[]⟩]) 32 := inferInstanceAs (TyI Tryz.prog 36 3 (.agg #[.int .i64 0, .int .i64 0, .string ⟨#[]⟩]) 32)
instance : TyU Tryz.prog 23 (.slice tTo.e) := inferInstanceAs (TyU Tryz.prog 23 (.slice 36))
def tSs : Ty SV := ⟨26, 1, fun S => [S.v], fun _ => rfl, by decide, fun a v hv => by simp at hv; subst hv; rfl⟩
instance : TyI Tryz.prog tSs.e 1 (.slice none 0 0) 24 := inferInstanceAs (TyI Tryz.prog 26 1 (.slice none 0 0) 24)
instance : TyU Tryz.prog 22 (.slice tSs.e) := inferInstanceAs (TyU Tryz.prog 22 (.slice 26))
def tPc : Ty Nat := ⟨27, 1, fun p => [.pointer (some ⟨p, 0, none⟩)], fun _ => rfl, by decide, fun a v hv => by simp at hv; subst hv; rfl⟩
instance : TyI Tryz.prog tPc.e 1 (.pointer none) 8 := inferInstanceAs (TyI Tryz.prog 27 1 (.pointer none) 8)
instance : TyU Tryz.prog 25 (.slice tPc.e) := inferInstanceAs (TyU Tryz.prog 25 (.slice 27))
/-- An honest node's part, and its log. -/
structure Pt where
 p : Nat
 part : Value
 Sl : SV
 Sw : SV
 log : List Ky
def ptA (x : Pt) : HProp := star (chC x.p true x.part x.Sl.v x.Sw.v) (slc tS true x.Sl x.log)
def PsOk (lg : List Ky) (ps : List Pt) : Prop := ∀ q ∈ ps, ∃ n, q.log = lg.take n
theorem Ent.ptAt {ps : List Pt} {j : Nat} (hj : j < ps.length) : ∃ R : HProp, (∀ L, Ent (stars (ps.map ptA) :: L) (chC ps[j].p true ps[j].part ps[j].Sl.v ps[j].Sw.v :: slc tS true ps[j].Sl ps[j].log :: R :: L)) ∧ ∀ L, Ent (chC ps[j].p true ps[j].part ps[j].Sl.v ps[j].Sw.v :: slc tS true ps[j].Sl ps[j].log :: R :: L) (stars (ps.map ptA) :: L) := by
 have hps : ps = ps.take j ++ ps[j] :: ps.drop (j + 1) := by rw [← List.drop_eq_getElem_cons hj, List.take_append_drop]
 generalize ps[j] = q at *
 refine ⟨stars ((ps.take j ++ ps.drop (j + 1)).map ptA), fun L => ?_, fun L => ?_⟩
 ·have h1 := Ent.mid_out (L := L) ptA (ps.take j) q (ps.drop (j + 1))
  rw [← hps] at h1
  exact h1.trans fun _ _ h => h.star
 ·have h1 := Ent.mid_in (L := L) ptA (ps.take j) q (ps.drop (j + 1))
  rw [← hps] at h1
  exact Ent.star_in.trans h1
structure Fx where
 i : Nat
 Sp : SV
 Sg : SV
 lg : List Ky
 ps : List Pt
structure Gx where
 i : Nat
 hd : Nat → Bool
 tl : Nat → Hg
 s : Sd
theorem takeW_may (l : List Ky) : ∀ v ∈ l.takeWhile mayV, mayV v = true := by
 induction l with
 | nil => simp
 | cons a l ih =>
  rw [List.takeWhile_cons]
  split
  ·rename_i h
   intro v hv
   rcases List.mem_cons.1 hv with rfl | hv
   ·exact h
   ·exact ih v hv
  ·simp
theorem takeW_len (l : List Ky) : (l.takeWhile mayV).length ≤ l.length := by
 induction l with
 | nil => simp
 | cons a l ih => rw [List.takeWhile_cons]; split <;> simp only [List.length_cons, List.length_nil] <;> omega
attribute [local irreducible] J JL QOp JOp seqQ blockQ loopQ retQ slc cel hex star pur stars Does RV Ent pAt scopeQ
attribute [local irreducible] votA agL zer63 bz122 foL folM mapC bz78 fol0
theorem follows_ok (E : World) (t : Int) (Sa Sl : SV) (Gs : List SV) (l : List To) (hg : ∀ s ∈ Gs, ∃ m : List Ky, ∀ g, slc tS false s m E g) (hl64 : ∀ d ∈ l, d.f ≤ 9223372036854775807) : Does Tryz.prog E 3 [.int .i64 t, Sa.v, Sl.v] [slc tSs false Sa Gs, slc tTo false Sl l] fun v L => v = .bool true ∧ L = [] := by
 have hal := alone_ok E
 refine Does.of Tryz.func3 rfl Tryz.ntmps3 rfl rfl fun F => ?_
 refine J.norm ?_
 by_cases c1 : t < 0
 ·refine Sr ?_
  refine Lq (Q_assign rfl) ?_
  refine Ln ?_
  refine J_seq ?_
  refine Sr ?_
  refine Lq (Q_move rfl) ?_
  refine Lq ((Q_lss rfl rfl).as (v' := .bool true) (congrArg Value.bool (decide_eq_true c1))) ?_
  refine Lq (Q_move rfl) ?_
  refine L_n rfl rfl rfl ?_
  refine L_n rfl rfl rfl ?_
  refine Lq (Q_pickT rfl rfl) ?_
  refine Lq (Q_move rfl) ?_
  refine L_n rfl rfl rfl ?_
  refine L_n rfl rfl rfl ?_
  refine L_n rfl rfl rfl ?_
  refine Lq (Q_pickT rfl rfl) ?_
  refine Lq (Q_move rfl) ?_
  refine L_n rfl rfl rfl ?_
  refine L_n rfl rfl rfl ?_
  refine L_n rfl rfl rfl ?_
  refine Lq (Q_pickT rfl rfl) ?_
  refine Ln ?_
  refine J_condT rfl ?_
  refine Sr ?_
  refine L_o rfl rfl rfl (O_call [] [0,1,2] hal rfl rfl ?_)
  rintro _ _ ⟨rfl, rfl⟩
  refine JL.norm ?_
  refine Lq (Q_assign rfl) ?_
  refine Ln ?_
  refine J_ret ?_
  refine seqQ_ret ?_
  exact retQ_ret _ [] (.cons (RV_tmp rfl) .nil) ⟨rfl, rfl⟩ (Ent.re [2] rfl)
 by_cases c2 : t > 2
 ·refine Sr ?_
  refine Lq (Q_assign rfl) ?_
  refine Ln ?_
  refine J_seq ?_
  refine Sr ?_
  refine Lq (Q_move rfl) ?_
  refine Lq ((Q_lss rfl rfl).as (v' := .bool false) (congrArg Value.bool (decide_eq_false c1))) ?_
  refine Lq (Q_move rfl) ?_
  refine Lq (Q_move rfl) ?_
  refine Lq ((Q_gtr rfl rfl).as (v' := .bool true) (congrArg Value.bool (decide_eq_true c2))) ?_
  refine Lq (Q_pickF rfl rfl) ?_
  refine Lq (Q_move rfl) ?_
  refine L_n rfl rfl rfl ?_
  refine L_n rfl rfl rfl ?_
  refine L_n rfl rfl rfl ?_
  refine Lq (Q_pickT rfl rfl) ?_
  refine Lq (Q_move rfl) ?_
  refine L_n rfl rfl rfl ?_
  refine L_n rfl rfl rfl ?_
  refine L_n rfl rfl rfl ?_
  refine Lq (Q_pickT rfl rfl) ?_
  refine Ln ?_
  refine J_condT rfl ?_
  refine Sr ?_
  refine L_o rfl rfl rfl (O_call [] [0,1,2] hal rfl rfl ?_)
  rintro _ _ ⟨rfl, rfl⟩
  refine JL.norm ?_
  refine Lq (Q_assign rfl) ?_
  refine Ln ?_
  refine J_ret ?_
  refine seqQ_ret ?_
  exact retQ_ret _ [] (.cons (RV_tmp rfl) .nil) ⟨rfl, rfl⟩ (Ent.re [2] rfl)
 by_cases c3 : 7 < Gs.length
 ·refine Sr ?_
  refine Lq (Q_assign rfl) ?_
  refine Ln ?_
  refine J_seq ?_
  refine Sr ?_
  refine Lq (Q_move rfl) ?_
  refine Lq ((Q_lss rfl rfl).as (v' := .bool false) (congrArg Value.bool (decide_eq_false c1))) ?_
  refine Lq (Q_move rfl) ?_
  refine Lq (Q_move rfl) ?_
  refine Lq ((Q_gtr rfl rfl).as (v' := .bool false) (congrArg Value.bool (decide_eq_false c2))) ?_
  refine Lq (Q_pickF rfl rfl) ?_
  refine Lq (Q_move rfl) ?_
  refine Lq (Q_move rfl) ?_
  refine Lq (Q_lenAt 0 rfl rfl) ?_
  refine Lq ((Q_gtr rfl rfl).as (v' := .bool true) (congrArg Value.bool (decide_eq_true (by omega)))) ?_
  refine Lq (Q_pickF rfl rfl) ?_
  refine Lq (Q_move rfl) ?_
  refine L_n rfl rfl rfl ?_
  refine L_n rfl rfl rfl ?_
  refine L_n rfl rfl rfl ?_
  refine Lq (Q_pickT rfl rfl) ?_
  refine Ln ?_
  refine J_condT rfl ?_
  refine Sr ?_
  refine L_o rfl rfl rfl (O_call [] [0,1,2] hal rfl rfl ?_)
  rintro _ _ ⟨rfl, rfl⟩
  refine JL.norm ?_
  refine Lq (Q_assign rfl) ?_
  refine Ln ?_
  refine J_ret ?_
  refine seqQ_ret ?_
  exact retQ_ret _ [] (.cons (RV_tmp rfl) .nil) ⟨rfl, rfl⟩ (Ent.re [2] rfl)
 by_cases c4 : 60 < l.length
 ·refine Sr ?_
  refine Lq (Q_assign rfl) ?_
  refine Ln ?_
  refine J_seq ?_
  refine Sr ?_
  refine Lq (Q_move rfl) ?_
  refine Lq ((Q_lss rfl rfl).as (v' := .bool false) (congrArg Value.bool (decide_eq_false c1))) ?_
  refine Lq (Q_move rfl) ?_
  refine Lq (Q_move rfl) ?_
  refine Lq ((Q_gtr rfl rfl).as (v' := .bool false) (congrArg Value.bool (decide_eq_false c2))) ?_
  refine Lq (Q_pickF rfl rfl) ?_
  refine Lq (Q_move rfl) ?_
  refine Lq (Q_move rfl) ?_
  refine Lq (Q_lenAt 0 rfl rfl) ?_
  refine Lq ((Q_gtr rfl rfl).as (v' := .bool false) (congrArg Value.bool (decide_eq_false (by omega)))) ?_
  refine Lq (Q_pickF rfl rfl) ?_
  refine Lq (Q_move rfl) ?_
  refine Lq (Q_move rfl) ?_
  refine Lq (Q_lenAt 1 rfl rfl) ?_
  refine Lq ((Q_gtr rfl rfl).as (v' := .bool true) (congrArg Value.bool (decide_eq_true (by omega)))) ?_
  refine Lq (Q_pickF rfl rfl) ?_
  refine Ln ?_
  refine J_condT rfl ?_
  refine Sr ?_
  refine L_o rfl rfl rfl (O_call [] [0,1,2] hal rfl rfl ?_)
  rintro _ _ ⟨rfl, rfl⟩
  refine JL.norm ?_
  refine Lq (Q_assign rfl) ?_
  refine Ln ?_
  refine J_ret ?_
  refine seqQ_ret ?_
  exact retQ_ret _ [] (.cons (RV_tmp rfl) .nil) ⟨rfl, rfl⟩ (Ent.re [2] rfl)
 obtain ⟨tn, rfl⟩ : ∃ tn : Nat, t = (tn : Int) := ⟨t.toNat, by omega⟩
 have ht2 : tn ≤ 2 := by omega
 refine Sr ?_
 refine Lq (Q_assign rfl) ?_
 refine Ln ?_
 refine J_seq ?_
 refine Sr ?_
 refine Lq (Q_move rfl) ?_
 refine Lq ((Q_lss rfl rfl).as (v' := .bool false) (congrArg Value.bool (decide_eq_false c1))) ?_
 refine Lq (Q_move rfl) ?_
 refine Lq (Q_move rfl) ?_
 refine Lq ((Q_gtr rfl rfl).as (v' := .bool false) (congrArg Value.bool (decide_eq_false c2))) ?_
 refine Lq (Q_pickF rfl rfl) ?_
 refine Lq (Q_move rfl) ?_
 refine Lq (Q_move rfl) ?_
 refine Lq (Q_lenAt 0 rfl rfl) ?_
 refine Lq ((Q_gtr rfl rfl).as (v' := .bool false) (congrArg Value.bool (decide_eq_false (by omega)))) ?_
 refine Lq (Q_pickF rfl rfl) ?_
 refine Lq (Q_move rfl) ?_
 refine Lq (Q_move rfl) ?_
 refine Lq (Q_lenAt 1 rfl rfl) ?_
 refine Lq ((Q_gtr rfl rfl).as (v' := .bool false) (congrArg Value.bool (decide_eq_false (by omega)))) ?_
 refine Lq (Q_pickF rfl rfl) ?_
 refine Ln ?_
 refine J_condF rfl ?_
 refine J_skip ?_
 refine seqQ_normal ?_
 refine Sr ?_
 refine Lq (Q_assign rfl) ?_
 refine Ln ?_
 refine Sr ?_
 refine Lq (Q_assign rfl) ?_
 refine Ln ?_
 refine J_seq ?_
 refine Sr ?_
 refine Lq (Q_assign rfl) ?_
 refine Ln ?_
 refine J_block ?_
 refine J.ent ((Ent.stars_nil).trans ((Ent.mk fun _ _ h => (h.lay_nil tS true : Sat _ _ (slc tS true SV.nil [] :: _))).trans (Ent.mk fun _ _ h => (h.lay_nil tPc true : Sat _ _ (slc tPc true SV.nil [] :: _))))) ?_
 refine J_loop (fun x : Fx => x.i ≤ Gs.length ∧ x.ps.length = x.i ∧ PsOk x.lg x.ps ∧ (∀ v ∈ x.lg, mayV v = true) ∧ x.lg.length ≤ 20) (fun x => [(0, .int .i64 (tn : Int)), (1, Sa.v), (2, Sl.v), (7, x.Sp.v), (8, x.Sg.v), (9, .int .i64 (x.i : Int))]) (fun x => [slc tSs false Sa Gs, slc tTo false Sl l, slc tPc true x.Sp (x.ps.map (·.p)), slc tS true x.Sg x.lg, stars (x.ps.map ptA), F]) (fun x => Gs.length - x.i) ⟨0, SV.nil, SV.nil, [], []⟩ ⟨Nat.zero_le _, rfl, by simp [PsOk], by simp, by simp⟩ ⟨rfl, rfl, rfl, rfl, rfl, rfl, trivial⟩ (Ent.re [3,4,0,1,2,5] rfl) ?_
 rintro ⟨k, Sp, Sg, lg, ps⟩ ⟨hk, hpl, hps, hmay, hlg⟩
 dsimp only at hk hpl hps hmay hlg ⊢
 refine J_seq ?_
 refine Sr ?_
 refine Lq (Q_move rfl) ?_
 refine Lq (Q_move rfl) ?_
 refine Lq (Q_lenAt 0 rfl rfl) ?_
 refine Lq (Q_lss rfl rfl) ?_
 refine Ln ?_
 refine J_condD rfl (fun h2 => ?_) (fun h2 => ?_)
 ·have hlt : k < Gs.length := by omega
  obtain ⟨m, hm⟩ := hg Gs[k] (List.getElem_mem hlt)
  have hpp : (ps.map (·.p)).length = k := by rw [List.length_map, hpl]
  refine J_skip ?_
  refine seqQ_normal ?_
  refine J_seq ?_
  refine J_block ?_
  refine Sr ?_
  refine L_o rfl rfl rfl (O_call [] [0,1,2,3,4,5] (cnew_ok E) rfl rfl ?_)
  rintro _ _ ⟨p, rfl, rfl⟩
  refine JL.norm ?_
  refine Lq (Q_assign rfl) ?_
  refine Ln ?_
  refine Sr ?_
  refine Lq (Q_move rfl) ?_
  refine L_o rfl rfl rfl (O_call [0,1,2] [3,4,5,6,7,8] (cstart_ok E p SV.nil SV.nil [] [] (.pointer none) (by decide) (by simp) (by decide)) rfl rfl ?_)
  rintro _ _ ⟨pa, pv, T, rfl, rfl⟩
  refine JL.norm ?_
  refine Ln ?_
  refine J_seq ?_
  refine J_seq ?_
  refine J.ent (Ent.re [0,1,2,6,7,8,9,10,11] rfl) ?_
  refine J.lay hm ?_
  by_cases c20 : 20 < m.length
  ·skip
   refine J_region ?_
   refine Lq (Q_move rfl) ?_
   refine Lq (Q_move rfl) ?_
   refine Lq (Q_ixAt 4 k rfl rfl rfl rfl hlt rfl) ?_
   refine Lq (Q_ldEAt 4 k 0 (v := Gs[k].v) rfl rfl rfl rfl hlt (by decide) rfl) ?_
   refine Lq (Q_lenAt 0 rfl rfl) ?_
   refine Lq ((Q_gtr rfl rfl).as (v' := .bool true) (congrArg Value.bool (decide_eq_true (by omega)))) ?_
   refine Ln ?_
   refine J_condT rfl ?_
   refine Sr ?_
   refine L_o rfl rfl rfl (O_call [] [0,1,2,3,4,5,6,7,8,9] hal rfl rfl ?_)
   rintro _ _ ⟨rfl, rfl⟩
   refine JL.norm ?_
   refine Lq (Q_assign rfl) ?_
   refine Ln ?_
   refine J_ret ?_
   refine seqQ_ret ?_
   refine blockQ_ret ?_
   refine seqQ_ret ?_
   refine loopQ_ret ?_
   refine blockQ_ret ?_
   refine seqQ_ret ?_
   exact retQ_ret _ [] (.cons (RV_tmp rfl) .nil) ⟨rfl, rfl⟩ (Ent.re [9] rfl)
  refine J_region ?_
  refine Lq (Q_move rfl) ?_
  refine Lq (Q_move rfl) ?_
  refine Lq (Q_ixAt 4 k rfl rfl rfl rfl hlt rfl) ?_
  refine Lq (Q_ldEAt 4 k 0 (v := Gs[k].v) rfl rfl rfl rfl hlt (by decide) rfl) ?_
  refine Lq (Q_lenAt 0 rfl rfl) ?_
  refine Lq ((Q_gtr rfl rfl).as (v' := .bool false) (congrArg Value.bool (decide_eq_false (by omega)))) ?_
  refine Ln ?_
  refine J_condF rfl ?_
  refine J_skip ?_
  refine seqQ_normal ?_
  refine J_seq ?_
  refine Sr ?_
  refine Lq (Q_assign rfl) ?_
  refine Ln ?_
  refine J_block ?_
  refine J_loop (fun j : Nat => j ≤ m.length) (fun j => [(0, .int .i64 (tn : Int)), (1, Sa.v), (2, Sl.v), (7, Sp.v), (8, Sg.v), (9, .int .i64 (k : Int)), (10, .pointer (some ⟨p, 0, none⟩)), (11, .int .i64 (j : Int))]) (fun _ => [slc tS false Gs[k] m, chC p true (.pointer (some ⟨pa, 0, none⟩)) SV.nil.v SV.nil.v, slc tS true SV.nil [], slc tS true SV.nil [], slc tSs false Sa Gs, slc tTo false Sl l, slc tPc true Sp (ps.map (·.p)), slc tS true Sg lg, stars (ps.map ptA), F]) (fun j => m.length - j) 0 (Nat.zero_le _) ⟨rfl, rfl, rfl, rfl, rfl, rfl, rfl, rfl, trivial⟩ (Ent.refl _) ?_
  intro j hj
  refine J_seq ?_
  refine Sr ?_
  refine Lq (Q_move rfl) ?_
  refine Lq (Q_move rfl) ?_
  refine Lq (Q_move rfl) ?_
  refine Lq (Q_ixAt 4 k rfl rfl rfl rfl hlt rfl) ?_
  refine Lq (Q_ldEAt 4 k 0 (v := Gs[k].v) rfl rfl rfl rfl hlt (by decide) rfl) ?_
  refine Lq (Q_lenAt 0 rfl rfl) ?_
  refine Lq (Q_lss rfl rfl) ?_
  refine Ln ?_
  refine J_condD rfl (fun h3 => ?_) (fun h3 => ?_)
  ·have hjt : j < m.length := by omega
   by_cases c5 : 5000 < m[j].length
   ·refine J_skip ?_
    refine seqQ_normal ?_
    refine J_seq ?_
    refine J_block ?_
    refine Sr ?_
    refine Lq (Q_move rfl) ?_
    refine Lq (Q_move rfl) ?_
    refine Lq (Q_ixAt 4 k rfl rfl rfl rfl hlt rfl) ?_
    refine Lq (Q_ldEAt 4 k 0 (v := Gs[k].v) rfl rfl rfl rfl hlt (by decide) rfl) ?_
    refine Lq (Q_move rfl) ?_
    refine Lq (Q_ixAt 0 j rfl rfl rfl rfl hjt rfl) ?_
    refine Lq (Q_ldEAt 0 j 0 (v := str m[j]) rfl rfl rfl rfl hjt (by decide) rfl) ?_
    refine Lq (Q_slen rfl) ?_
    refine Lq ((Q_gtr rfl rfl).as (v' := .bool true) (congrArg Value.bool (decide_eq_true (by omega)))) ?_
    refine Ln ?_
    refine J_condT rfl ?_
    refine Sr ?_
    refine L_o rfl rfl rfl (O_call [] [0,1,2,3,4,5,6,7,8,9] hal rfl rfl ?_)
    rintro _ _ ⟨rfl, rfl⟩
    refine JL.norm ?_
    refine Lq (Q_assign rfl) ?_
    refine Ln ?_
    refine J_ret ?_
    refine blockQ_ret ?_
    refine seqQ_ret ?_
    refine loopQ_ret ?_
    refine blockQ_ret ?_
    refine seqQ_ret ?_
    refine blockQ_ret ?_
    refine seqQ_ret ?_
    refine loopQ_ret ?_
    refine blockQ_ret ?_
    refine seqQ_ret ?_
    exact retQ_ret _ [] (.cons (RV_tmp rfl) .nil) ⟨rfl, rfl⟩ (Ent.re [9] rfl)
   ·refine J_skip ?_
    refine seqQ_normal ?_
    refine J_seq ?_
    refine J_block ?_
    refine Sr ?_
    refine Lq (Q_move rfl) ?_
    refine Lq (Q_move rfl) ?_
    refine Lq (Q_ixAt 4 k rfl rfl rfl rfl hlt rfl) ?_
    refine Lq (Q_ldEAt 4 k 0 (v := Gs[k].v) rfl rfl rfl rfl hlt (by decide) rfl) ?_
    refine Lq (Q_move rfl) ?_
    refine Lq (Q_ixAt 0 j rfl rfl rfl rfl hjt rfl) ?_
    refine Lq (Q_ldEAt 0 j 0 (v := str m[j]) rfl rfl rfl rfl hjt (by decide) rfl) ?_
    refine Lq (Q_slen rfl) ?_
    refine Lq ((Q_gtr rfl rfl).as (v' := .bool false) (congrArg Value.bool (decide_eq_false (by omega)))) ?_
    refine Ln ?_
    refine J_condF rfl ?_
    refine J_skip ?_
    refine blockQ_normal ?_
    refine seqQ_normal ?_
    refine J_region ?_
    refine Lq (Q_move rfl) ?_
    refine Lq (Q_add rfl rfl (by first | exact IntWalk.i64_in _ (by omega) | exact IntWalk.u8_in _ (by omega) | exact IntWalk.u32_in _ (by omega) | exact IntWalk.u64_in _ (by omega) | rfl)) ?_
    refine Lq (Q_assign rfl) ?_
    refine JL_nil ?_
    exact loopQ_normal (j + 1) hjt (by show m.length - (j + 1) < m.length - j; omega) ⟨rfl, rfl, rfl, rfl, rfl, rfl, rfl, rfl, trivial⟩ (Ent.refl _)
  ·by_cases ck : k = 0
   ·obtain rfl : k = 0 := ck
    have hca := ccatch_ok E p SV.nil SV.nil (.pointer (some ⟨pa, 0, none⟩)) (slc tS false Gs[0] m) Gs[0] m RdyS.slc (by omega)
    have htl := takeW_len m
    have htm := takeW_may m
    generalize m.takeWhile mayV = tw at *
    refine J_exit ?_
    refine seqQ_exit ?_
    refine loopQ_exit ?_
    refine blockQ_hit ?_
    refine seqQ_normal ?_
    refine J_seq ?_
    refine Sr ?_
    refine Lq (Q_move rfl) ?_
    refine Lq ((Q_gtr rfl rfl).as (v' := .bool false) rfl) ?_
    refine Ln ?_
    refine J_condF rfl ?_
    refine Sr ?_
    refine Lq (Q_move rfl) ?_
    refine Lq (Q_move rfl) ?_
    refine Lq (Q_ixAt 4 0 rfl rfl rfl rfl hlt rfl) ?_
    refine Lq (Q_ldEAt 4 0 0 (v := Gs[0].v) rfl rfl rfl rfl hlt (by decide) rfl) ?_
    refine L_o rfl rfl rfl (O_call [0,1,2,3] [4,5,6,7,8,9] hca rfl rfl ?_)
    rintro _ _ ⟨z, part2, Tl, Tw, rfl, rfl⟩
    refine JL.norm ?_
    refine Ln ?_
    refine J_region ?_
    refine Lq (Q_move rfl) ?_
    refine L_o rfl rfl rfl (O_call [1,2] [0,3,4,5,6,7,8,9] (clog_ok E p Tl tw true part2 Tw.v (by omega)) rfl rfl ?_)
    rintro _ _ ⟨T2, rfl, rfl⟩
    refine JL.norm ?_
    refine Lq (Q_assign rfl) ?_
    refine Ln ?_
    refine J_region ?_
    refine Lq (Q_move rfl) ?_
    refine Lq (Q_move rfl) ?_
    refine L_o rfl rfl rfl (O_litP (τ := tPc) (m := 1) (sz := 1) [p] rfl rfl rfl rfl rfl rfl (by decide) (fun U => ?_))
    refine JL.norm ?_
    refine L_o rfl rfl rfl (O_app (τ := tPc) 8 rfl (fun w h => h.rd 0 rfl) rfl rfl rfl rfl (by rw [hpp, List.length_singleton]; omega) (by decide) (fun Sp2 => ?_))
    refine JL.norm ?_
    refine Lq (Q_assign rfl) ?_
    refine JL_nil ?_
    refine blockQ_normal ?_
    refine seqQ_normal ?_
    refine J_region ?_
    refine Lq (Q_move rfl) ?_
    refine Lq (Q_add rfl rfl (by first | exact IntWalk.i64_in _ (by omega) | exact IntWalk.u8_in _ (by omega) | exact IntWalk.u32_in _ (by omega) | exact IntWalk.u64_in _ (by omega) | rfl)) ?_
    refine Lq (Q_assign rfl) ?_
    refine JL_nil ?_
    refine loopQ_normal ⟨0 + 1, Sp2, T2, tw, ps ++ [⟨p, part2, Tl, Tw, tw⟩]⟩ ⟨hlt, by simp [hpl], ?_, htm, by show tw.length ≤ 20; omega⟩ (by show Gs.length - (0 + 1) < Gs.length - 0; omega) ⟨rfl, rfl, rfl, rfl, rfl, rfl, trivial⟩ ?_
    ·intro q hq
     rcases List.mem_append.1 hq with hq | hq
     ·have h0 : ps = [] := List.eq_nil_of_length_eq_zero hpl
      rw [h0] at hq; cases hq
     ·rw [List.mem_singleton.1 hq]; exact ⟨tw.length, by rw [List.take_length]⟩
    ·dsimp only
     rw [List.map_append]
     refine Ent.trans ?_ ((Ent.last_in (L := [slc tSs false Sa Gs, slc tTo false Sl l, slc tPc true Sp2 (ps.map (·.p) ++ [p]), slc tS true T2 tw, F]) ptA ps ⟨p, part2, Tl, Tw, tw⟩).trans (Ent.re [1,2,3,4,0,5] rfl))
     exact (Ent.pick [1,2,10,6,7,8,3,11] _ rfl).trans Ent.star_in
   ·have hca := ccatch_ok E p SV.nil SV.nil (.pointer (some ⟨pa, 0, none⟩)) (slc tS true Sg lg) (Sg.sub 1 0 (min lg.length m.length)) (lg.take (min lg.length m.length)) (RdyS.slc.sub _ (Nat.min_le_left _ _)) (by rw [List.length_take]; omega)
    rw [takeW_all (fun v hv => hmay v (List.mem_of_mem_take hv))] at hca
    refine J_exit ?_
    refine seqQ_exit ?_
    refine loopQ_exit ?_
    refine blockQ_hit ?_
    refine seqQ_normal ?_
    refine J_seq ?_
    refine Sr ?_
    refine Lq (Q_move rfl) ?_
    refine Lq ((Q_gtr rfl rfl).as (v' := .bool true) (congrArg Value.bool (decide_eq_true (by omega)))) ?_
    refine Ln ?_
    refine J_condT rfl ?_
    refine J_region ?_
    refine Lq (Q_move rfl) ?_
    refine Lq (Q_move rfl) ?_
    refine Lq (Q_move rfl) ?_
    refine Lq (Q_lenAt 7 rfl rfl) ?_
    refine Lq (Q_move rfl) ?_
    refine Lq (Q_move rfl) ?_
    refine Lq (Q_ixAt 4 k rfl rfl rfl rfl hlt rfl) ?_
    refine Lq (Q_ldEAt 4 k 0 (v := Gs[k].v) rfl rfl rfl rfl hlt (by decide) rfl) ?_
    refine Lq (Q_lenAt 0 rfl rfl) ?_
    refine Lq ((Q_min2 rfl rfl).as (v' := .int .i64 ((min lg.length m.length : Nat) : Int)) (congrArg (Value.int .i64) (by omega))) ?_
    refine Lq (Q_slH (τ := tS) (m := lg) (min lg.length m.length) (fun w h => h.rd 7 rfl) rfl rfl rfl (Nat.min_le_left _ _) rfl) ?_
    refine L_o rfl rfl rfl (O_call [7,1,2,3] [0,4,5,6,8,9] hca rfl rfl ?_)
    rintro _ _ ⟨z, part2, Tl, Tw, rfl, rfl⟩
    refine JL.norm ?_
    refine Ln ?_
    refine J_region ?_
    refine Lq (Q_move rfl) ?_
    refine Lq (Q_move rfl) ?_
    refine L_o rfl rfl rfl (O_litP (τ := tPc) (m := 1) (sz := 1) [p] rfl rfl rfl rfl rfl rfl (by decide) (fun U => ?_))
    refine JL.norm ?_
    refine L_o rfl rfl rfl (O_app (τ := tPc) 8 rfl (fun w h => h.rd 0 rfl) rfl rfl rfl rfl (by rw [hpp, List.length_singleton]; omega) (by decide) (fun Sp2 => ?_))
    refine JL.norm ?_
    refine Lq (Q_assign rfl) ?_
    refine JL_nil ?_
    refine blockQ_normal ?_
    refine seqQ_normal ?_
    refine J_region ?_
    refine Lq (Q_move rfl) ?_
    refine Lq (Q_add rfl rfl (by first | exact IntWalk.i64_in _ (by omega) | exact IntWalk.u8_in _ (by omega) | exact IntWalk.u32_in _ (by omega) | exact IntWalk.u64_in _ (by omega) | rfl)) ?_
    refine Lq (Q_assign rfl) ?_
    refine JL_nil ?_
    refine loopQ_normal ⟨k + 1, Sp2, Sg, lg, ps ++ [⟨p, part2, Tl, Tw, lg.take (min lg.length m.length)⟩]⟩ ⟨hlt, by simp [hpl], ?_, hmay, hlg⟩ (by show Gs.length - (k + 1) < Gs.length - k; omega) ⟨rfl, rfl, rfl, rfl, rfl, rfl, trivial⟩ ?_
    ·intro q hq
     rcases List.mem_append.1 hq with hq | hq
     ·exact hps q hq
     ·rw [List.mem_singleton.1 hq]; exact ⟨_, rfl⟩
    ·dsimp only
     rw [List.map_append]
     refine Ent.trans ?_ ((Ent.last_in (L := [slc tSs false Sa Gs, slc tTo false Sl l, slc tPc true Sp2 (ps.map (·.p) ++ [p]), slc tS true Sg lg, F]) ptA ps ⟨p, part2, Tl, Tw, lg.take (min lg.length m.length)⟩).trans (Ent.re [1,2,3,4,0,5] rfl))
     exact (Ent.pick [2,3,9,6,7,8,1,10] _ rfl).trans Ent.star_in
 ·have hfn := fnew_ok E (tn : Int)
  rw [show min (max (tn : Int) 0) 2 = (tn : Int) by omega] at hfn
  refine J_exit ?_
  refine seqQ_exit ?_
  refine loopQ_exit ?_
  refine blockQ_hit ?_
  refine seqQ_normal ?_
  refine Sr ?_
  refine Lq (Q_move rfl) ?_
  refine L_o rfl rfl rfl (O_call [] [0,1,2,3,4,5] hfn rfl rfl ?_)
  rintro _ _ ⟨pf, rfl, rfl⟩
  refine JL.norm ?_
  refine Lq (Q_assign rfl) ?_
  refine Ln ?_
  refine J_seq ?_
  refine Sr ?_
  refine Lq (Q_assign rfl) ?_
  refine Ln ?_
  refine J_block ?_
  clear h2
  refine J_loop (fun x : Gx => x.i ≤ l.length ∧ FI tn lg x.hd x.tl x.s) (fun x => [(0, .int .i64 (tn : Int)), (2, Sl.v), (7, Sp.v), (8, Sg.v), (12, .pointer (some ⟨pf, 0, none⟩)), (13, .int .i64 (x.i : Int))]) (fun x => [slc tTo false Sl l, slc tPc true Sp (ps.map (·.p)), slc tS true Sg lg, stars (ps.map ptA), folC pf (tn : Int) x.hd x.tl, folM x.tl, F]) (fun x => l.length - x.i) ⟨0, _, _, _⟩ ⟨Nat.zero_le _, fi_new tn lg⟩ ⟨rfl, rfl, rfl, rfl, rfl, rfl, trivial⟩ (Ent.re [3,4,5,6,0,1,7] rfl) ?_
  rintro ⟨i, hd, tl, s⟩ ⟨hi, hF⟩
  dsimp only at hi hF ⊢
  refine J_seq ?_
  refine Sr ?_
  refine Lq (Q_move rfl) ?_
  refine Lq (Q_move rfl) ?_
  refine Lq (Q_lenAt 0 rfl rfl) ?_
  refine Lq (Q_lss rfl rfl) ?_
  refine Ln ?_
  refine J_condD rfl (fun h3 => ?_) (fun h3 => ?_)
  ·have hit : i < l.length := by omega
   have hf64 := hl64 l[i] (List.getElem_mem hit)
   have hcb : ∀ h v, 0 ≤ cntG (tl h) v ∧ cntG (tl h) v ≤ 1000000 := fun h v => by rw [hF.cn]; have := cntS_le (s h) v; omega
   by_cases c5 : 5000 < l[i].v.length
   ·refine J_skip ?_
    refine seqQ_normal ?_
    refine J_seq ?_
    refine J_block ?_
    refine J_seq ?_
    refine Sr ?_
    refine Lq (Q_move rfl) ?_
    refine Lq (Q_move rfl) ?_
    refine Lq (Q_ixAt 0 i rfl rfl rfl rfl hit rfl) ?_
    refine Lq (Q_pfa rfl) ?_
    refine Lq (Q_ldEAt 0 i 2 (v := str l[i].v) rfl rfl rfl rfl hit (by decide) rfl) ?_
    refine Lq (Q_slen rfl) ?_
    refine Lq ((Q_gtr rfl rfl).as (v' := .bool true) (congrArg Value.bool (decide_eq_true (by omega)))) ?_
    refine Ln ?_
    refine J_condT rfl ?_
    refine Sr ?_
    refine L_o rfl rfl rfl (O_call [] [0,1,2,3,4,5,6] hal rfl rfl ?_)
    rintro _ _ ⟨rfl, rfl⟩
    refine JL.norm ?_
    refine Lq (Q_assign rfl) ?_
    refine Ln ?_
    refine J_ret ?_
    refine seqQ_ret ?_
    refine blockQ_ret ?_
    refine seqQ_ret ?_
    refine loopQ_ret ?_
    refine blockQ_ret ?_
    refine seqQ_ret ?_
    exact retQ_ret _ [] (.cons (RV_tmp rfl) .nil) ⟨rfl, rfl⟩ (Ent.re [6] rfl)
   refine J_skip ?_
   refine seqQ_normal ?_
   refine J_seq ?_
   refine J_block ?_
   refine J_seq ?_
   refine Sr ?_
   refine Lq (Q_move rfl) ?_
   refine Lq (Q_move rfl) ?_
   refine Lq (Q_ixAt 0 i rfl rfl rfl rfl hit rfl) ?_
   refine Lq (Q_pfa rfl) ?_
   refine Lq (Q_ldEAt 0 i 2 (v := str l[i].v) rfl rfl rfl rfl hit (by decide) rfl) ?_
   refine Lq (Q_slen rfl) ?_
   refine Lq ((Q_gtr rfl rfl).as (v' := .bool false) (congrArg Value.bool (decide_eq_false (by omega)))) ?_
   refine Ln ?_
   refine J_condF rfl ?_
   refine J_skip ?_
   refine seqQ_normal ?_
   refine J_seq ?_
   refine J_seq ?_
   by_cases d1 : l[i].f ≥ 1
   ·by_cases d2 : l[i].f ≤ (tn : Int)
    ·skip
     refine J_region ?_
     refine Lq (Q_move rfl) ?_
     refine Lq (Q_move rfl) ?_
     refine Lq (Q_ixAt 0 i rfl rfl rfl rfl hit rfl) ?_
     refine Lq (Q_pfa rfl) ?_
     refine Lq (Q_ldEAt 0 i 0 (v := .int .i64 l[i].f) rfl rfl rfl rfl hit (by decide) rfl) ?_
     refine Lq ((Q_geq rfl rfl).as (v' := .bool true) (congrArg Value.bool (decide_eq_true d1))) ?_
     refine Lq (Q_move rfl) ?_
     refine Lq (Q_move rfl) ?_
     refine Lq (Q_move rfl) ?_
     refine Lq (Q_ixAt 0 i rfl rfl rfl rfl hit rfl) ?_
     refine Lq (Q_pfa rfl) ?_
     refine Lq (Q_ldEAt 0 i 0 (v := .int .i64 l[i].f) rfl rfl rfl rfl hit (by decide) rfl) ?_
     refine Lq (Q_move rfl) ?_
     refine Lq ((Q_leq rfl rfl).as (v' := .bool true) (congrArg Value.bool (decide_eq_true d2))) ?_
     refine Lq (Q_pickT rfl rfl) ?_
     refine Ln ?_
     refine J_condT rfl ?_
     refine J_seq ?_
     by_cases hok : ∃ f' h' : Nat, l[i].f = (f' : Int) ∧ l[i].h = (h' : Int) ∧ OkF hd f' h' l[i].v
     ·obtain ⟨f', h', e1, e2, hok⟩ := hok
      have hput := fputT_ok E pf f' h' (tn : Int) hd tl l[i].v hok (by omega) (hcb h' l[i].v)
      rw [← e1, ← e2] at hput
      refine DH [0] [0,1,2,3,4,5,6,7,8,9,10,11,12,13,14,15] (.quiet 0 (.quiet 1 (.quiet 2 (.quiet 3 (.quiet 4 (.quiet 5 (.quiet 6 (.quiet 7 (.quiet 8 (.quiet 9 (.quiet 10 (.quiet 11 (.quiet 12 (.quiet 13 (.quiet 14 (.quiet 15 (.loud 16 .done))))))))))))))))) Tryz.mixed ?_
      refine Sq (Ent.re [0] rfl) rfl (Q_move rfl) ?_
      refine Sq (Ent.re [0] rfl) rfl (Q_move rfl) ?_
      refine Sq (Ent.re [0] rfl) rfl (Q_move rfl) ?_
      refine Sq (Ent.re [0] rfl) rfl (Q_ixAt 0 i rfl rfl rfl rfl hit rfl) ?_
      refine Sq (Ent.re [0] rfl) rfl (Q_pfa rfl) ?_
      refine Sq (Ent.re [0] rfl) rfl (Q_ldEAt 0 i 0 (v := .int .i64 l[i].f) rfl rfl rfl rfl hit (by decide) rfl) ?_
      refine Sq (Ent.re [0] rfl) rfl (Q_move rfl) ?_
      refine Sq (Ent.re [0] rfl) rfl (Q_move rfl) ?_
      refine Sq (Ent.re [0] rfl) rfl (Q_ixAt 0 i rfl rfl rfl rfl hit rfl) ?_
      refine Sq (Ent.re [0] rfl) rfl (Q_pfa rfl) ?_
      refine Sq (Ent.re [0] rfl) rfl (Q_ldEAt 0 i 1 (v := .int .i64 l[i].h) rfl rfl rfl rfl hit (by decide) rfl) ?_
      refine Sq (Ent.re [0] rfl) rfl (Q_move rfl) ?_
      refine Sq (Ent.re [0] rfl) rfl (Q_move rfl) ?_
      refine Sq (Ent.re [0] rfl) rfl (Q_ixAt 0 i rfl rfl rfl rfl hit rfl) ?_
      refine Sq (Ent.re [0] rfl) rfl (Q_pfa rfl) ?_
      refine Sq (Ent.re [0] rfl) rfl (Q_ldEAt 0 i 2 (v := str l[i].v) rfl rfl rfl rfl hit (by decide) rfl) ?_
      refine S_o rfl rfl rfl rfl (O_call [4,5] [0,1,2,3,6] hput rfl rfl ?_)
      (rintro _ _ ⟨m, rfl, rfl⟩; refine ⟨[], free_no (by kernel_rfl), ?_⟩)
      refine JS.norm ?_
      refine S_nil ?_
      refine seqQ_normal ?_
      refine J_exit ?_
      refine seqQ_exit ?_
      refine blockQ_hit ?_
      refine seqQ_normal ?_
      refine J_region ?_
      refine Lq (Q_move rfl) ?_
      refine Lq (Q_add rfl rfl (by first | exact IntWalk.i64_in _ (by omega) | exact IntWalk.u8_in _ (by omega) | exact IntWalk.u32_in _ (by omega) | exact IntWalk.u64_in _ (by omega) | rfl)) ?_
      refine Lq (Q_assign rfl) ?_
      refine JL_nil ?_
      exact loopQ_normal ⟨i + 1, updB hd (h' * 8 + f'), updG tl h' (addG (tl h') m l[i].v (tn + 1)), sayS s h' f' l[i].v⟩ ⟨hit, hF.put hok (fun hlt => absurd d2 (by omega)) m⟩ (by show l.length - (i + 1) < l.length - i; omega) ⟨rfl, rfl, rfl, rfl, rfl, rfl, trivial⟩ (Ent.pick [2,3,4,5,0,1,6] _ rfl)
     ·have hput := fputF_ok E pf l[i].f l[i].h (tn : Int) hd tl l[i].v (fun f' h' e1 e2 h => hok ⟨f', h', e1, e2, h⟩)
      refine DH [0] [0,1,2,3,4,5,6,7,8,9,10,11,12,13,14,15] (.quiet 0 (.quiet 1 (.quiet 2 (.quiet 3 (.quiet 4 (.quiet 5 (.quiet 6 (.quiet 7 (.quiet 8 (.quiet 9 (.quiet 10 (.quiet 11 (.quiet 12 (.quiet 13 (.quiet 14 (.quiet 15 (.loud 16 .done))))))))))))))))) Tryz.mixed ?_
      refine Sq (Ent.re [0] rfl) rfl (Q_move rfl) ?_
      refine Sq (Ent.re [0] rfl) rfl (Q_move rfl) ?_
      refine Sq (Ent.re [0] rfl) rfl (Q_move rfl) ?_
      refine Sq (Ent.re [0] rfl) rfl (Q_ixAt 0 i rfl rfl rfl rfl hit rfl) ?_
      refine Sq (Ent.re [0] rfl) rfl (Q_pfa rfl) ?_
      refine Sq (Ent.re [0] rfl) rfl (Q_ldEAt 0 i 0 (v := .int .i64 l[i].f) rfl rfl rfl rfl hit (by decide) rfl) ?_
      refine Sq (Ent.re [0] rfl) rfl (Q_move rfl) ?_
      refine Sq (Ent.re [0] rfl) rfl (Q_move rfl) ?_
      refine Sq (Ent.re [0] rfl) rfl (Q_ixAt 0 i rfl rfl rfl rfl hit rfl) ?_
      refine Sq (Ent.re [0] rfl) rfl (Q_pfa rfl) ?_
      refine Sq (Ent.re [0] rfl) rfl (Q_ldEAt 0 i 1 (v := .int .i64 l[i].h) rfl rfl rfl rfl hit (by decide) rfl) ?_
      refine Sq (Ent.re [0] rfl) rfl (Q_move rfl) ?_
      refine Sq (Ent.re [0] rfl) rfl (Q_move rfl) ?_
      refine Sq (Ent.re [0] rfl) rfl (Q_ixAt 0 i rfl rfl rfl rfl hit rfl) ?_
      refine Sq (Ent.re [0] rfl) rfl (Q_pfa rfl) ?_
      refine Sq (Ent.re [0] rfl) rfl (Q_ldEAt 0 i 2 (v := str l[i].v) rfl rfl rfl rfl hit (by decide) rfl) ?_
      refine S_o rfl rfl rfl rfl (O_call [4] [0,1,2,3,5,6] hput rfl rfl ?_)
      (rintro _ _ ⟨rfl, rfl⟩; refine ⟨[], free_no (by kernel_rfl), ?_⟩)
      refine JS.norm ?_
      refine S_nil ?_
      refine seqQ_normal ?_
      refine J_exit ?_
      refine seqQ_exit ?_
      refine blockQ_hit ?_
      refine seqQ_normal ?_
      refine J_region ?_
      refine Lq (Q_move rfl) ?_
      refine Lq (Q_add rfl rfl (by first | exact IntWalk.i64_in _ (by omega) | exact IntWalk.u8_in _ (by omega) | exact IntWalk.u32_in _ (by omega) | exact IntWalk.u64_in _ (by omega) | rfl)) ?_
      refine Lq (Q_assign rfl) ?_
      refine JL_nil ?_
      exact loopQ_normal ⟨i + 1, hd, tl, s⟩ ⟨hit, hF⟩ (by show l.length - (i + 1) < l.length - i; omega) ⟨rfl, rfl, rfl, rfl, rfl, rfl, trivial⟩ (Ent.re [1,2,3,4,0,5,6] rfl)
    ·skip
     refine J_region ?_
     refine Lq (Q_move rfl) ?_
     refine Lq (Q_move rfl) ?_
     refine Lq (Q_ixAt 0 i rfl rfl rfl rfl hit rfl) ?_
     refine Lq (Q_pfa rfl) ?_
     refine Lq (Q_ldEAt 0 i 0 (v := .int .i64 l[i].f) rfl rfl rfl rfl hit (by decide) rfl) ?_
     refine Lq ((Q_geq rfl rfl).as (v' := .bool true) (congrArg Value.bool (decide_eq_true d1))) ?_
     refine Lq (Q_move rfl) ?_
     refine Lq (Q_move rfl) ?_
     refine Lq (Q_move rfl) ?_
     refine Lq (Q_ixAt 0 i rfl rfl rfl rfl hit rfl) ?_
     refine Lq (Q_pfa rfl) ?_
     refine Lq (Q_ldEAt 0 i 0 (v := .int .i64 l[i].f) rfl rfl rfl rfl hit (by decide) rfl) ?_
     refine Lq (Q_move rfl) ?_
     refine Lq ((Q_leq rfl rfl).as (v' := .bool false) (congrArg Value.bool (decide_eq_false d2))) ?_
     refine Lq (Q_pickT rfl rfl) ?_
     refine Ln ?_
     refine J_condF rfl ?_
     refine J_skip ?_
     refine seqQ_normal ?_
     refine J_seq ?_
     refine J_seq ?_
     by_cases d3 : l[i].f - (tn : Int) > (ps.length : Int)
     ·skip
      refine J_region ?_
      refine Lq (Q_move rfl) ?_
      refine Lq (Q_move rfl) ?_
      refine Lq (Q_ixAt 0 i rfl rfl rfl rfl hit rfl) ?_
      refine Lq (Q_pfa rfl) ?_
      refine Lq (Q_ldEAt 0 i 0 (v := .int .i64 l[i].f) rfl rfl rfl rfl hit (by decide) rfl) ?_
      refine Lq ((Q_lss rfl rfl).as (v' := .bool false) (congrArg Value.bool (decide_eq_false (by omega)))) ?_
      refine Lq (Q_move rfl) ?_
      refine Lq (Q_move rfl) ?_
      refine Lq (Q_move rfl) ?_
      refine Lq (Q_ixAt 0 i rfl rfl rfl rfl hit rfl) ?_
      refine Lq (Q_pfa rfl) ?_
      refine Lq (Q_ldEAt 0 i 0 (v := .int .i64 l[i].f) rfl rfl rfl rfl hit (by decide) rfl) ?_
      refine Lq (Q_move rfl) ?_
      refine Lq (Q_sub (r := l[i].f - (tn : Int)) rfl rfl (IntWalk.i64_in _ (by omega))) ?_
      refine Lq (Q_move rfl) ?_
      refine Lq (Q_lenAt 1 rfl rfl) ?_
      refine Lq ((Q_gtr rfl rfl).as (v' := .bool true) (congrArg Value.bool (decide_eq_true (by rw [List.length_map]; exact d3)))) ?_
      refine Lq (Q_pickF rfl rfl) ?_
      refine Ln ?_
      refine J_condT rfl ?_
      refine J_exit ?_
      refine seqQ_exit ?_
      refine blockQ_hit ?_
      refine seqQ_normal ?_
      refine J_region ?_
      refine Lq (Q_move rfl) ?_
      refine Lq (Q_add rfl rfl (by first | exact IntWalk.i64_in _ (by omega) | exact IntWalk.u8_in _ (by omega) | exact IntWalk.u32_in _ (by omega) | exact IntWalk.u64_in _ (by omega) | rfl)) ?_
      refine Lq (Q_assign rfl) ?_
      refine JL_nil ?_
      exact loopQ_normal ⟨i + 1, hd, tl, s⟩ ⟨hit, hF⟩ (by show l.length - (i + 1) < l.length - i; omega) ⟨rfl, rfl, rfl, rfl, rfl, rfl, trivial⟩ (Ent.refl _)
     obtain ⟨j, hj⟩ : ∃ j : Nat, l[i].f - (tn : Int) - 1 = (j : Int) := ⟨(l[i].f - (tn : Int) - 1).toNat, by omega⟩
     have hjt : j < ps.length := by omega
     have hjm : j < (ps.map (·.p)).length := by rw [List.length_map]; exact hjt
     obtain ⟨n, hn⟩ := hps ps[j] (List.getElem_mem hjt)
     have hqlen : ps[j].log.length ≤ 20 := by rw [hn, List.length_take]; omega
     have hlog := clog_ok E ps[j].p ps[j].Sl ps[j].log true ps[j].part ps[j].Sw.v (by omega)
     obtain ⟨R, o1, o2⟩ := Ent.ptAt hjt
     refine J_region ?_
     refine Lq (Q_move rfl) ?_
     refine Lq (Q_move rfl) ?_
     refine Lq (Q_ixAt 0 i rfl rfl rfl rfl hit rfl) ?_
     refine Lq (Q_pfa rfl) ?_
     refine Lq (Q_ldEAt 0 i 0 (v := .int .i64 l[i].f) rfl rfl rfl rfl hit (by decide) rfl) ?_
     refine Lq ((Q_lss rfl rfl).as (v' := .bool false) (congrArg Value.bool (decide_eq_false (by omega)))) ?_
     refine Lq (Q_move rfl) ?_
     refine Lq (Q_move rfl) ?_
     refine Lq (Q_move rfl) ?_
     refine Lq (Q_ixAt 0 i rfl rfl rfl rfl hit rfl) ?_
     refine Lq (Q_pfa rfl) ?_
     refine Lq (Q_ldEAt 0 i 0 (v := .int .i64 l[i].f) rfl rfl rfl rfl hit (by decide) rfl) ?_
     refine Lq (Q_move rfl) ?_
     refine Lq (Q_sub (r := l[i].f - (tn : Int)) rfl rfl (IntWalk.i64_in _ (by omega))) ?_
     refine Lq (Q_move rfl) ?_
     refine Lq (Q_lenAt 1 rfl rfl) ?_
     refine Lq ((Q_gtr rfl rfl).as (v' := .bool false) (congrArg Value.bool (decide_eq_false (by rw [List.length_map]; exact d3)))) ?_
     refine Lq (Q_pickF rfl rfl) ?_
     refine Ln ?_
     refine J_condF rfl ?_
     refine J_skip ?_
     refine seqQ_normal ?_
     refine J_seq ?_
     refine J.ent ((Ent.re [3,0,1,2,4,5,6] rfl).trans (o1 _)) ?_
     refine J_region ?_
     refine Lq (Q_move rfl) ?_
     refine Lq (Q_move rfl) ?_
     refine Lq (Q_move rfl) ?_
     refine Lq (Q_ixAt 3 i rfl rfl rfl rfl hit rfl) ?_
     refine Lq (Q_pfa rfl) ?_
     refine Lq (Q_ldEAt 3 i 0 (v := .int .i64 l[i].f) rfl rfl rfl rfl hit (by decide) rfl) ?_
     refine Lq (Q_move rfl) ?_
     refine Lq (Q_sub (r := l[i].f - (tn : Int)) rfl rfl (IntWalk.i64_in _ (by omega))) ?_
     refine Lq (Q_sub (r := l[i].f - (tn : Int) - 1) rfl rfl (IntWalk.i64_in _ (by omega))) ?_
     refine Lq (Q_ixAt 4 j rfl rfl rfl hj hjm rfl) ?_
     refine Lq (Q_ldEAt 4 j 0 (v := .pointer (some ⟨ps[j].p, 0, none⟩)) rfl rfl rfl rfl hjm (by decide) (by rw [List.getElem_map]; rfl)) ?_
     refine L_o rfl rfl rfl (O_call [0,1] [2,3,4,5,6,7,8] hlog rfl rfl ?_)
     rintro _ _ ⟨T, rfl, rfl⟩
     refine JL.norm ?_
     refine Lq (Q_assign rfl) ?_
     refine Ln ?_
     refine J_seq ?_
     refine J.ent ((Ent.re [0,1,3,2,4,5,6,7,8,9] rfl).trans ((o2 _).trans (Ent.re [1,2,3,4,0,5,6,7] rfl))) ?_
     have hlin : l[i].f ≥ 1 := d1
     by_cases d5 : l[i].h ≥ 0
     ·by_cases d6 : l[i].h < (ps[j].log.length : Int)
      ·obtain ⟨h', he⟩ : ∃ h' : Nat, l[i].h = (h' : Int) := ⟨l[i].h.toNat, by omega⟩
       have hht : h' < ps[j].log.length := by omega
       have hlgh : lg[h']? = some ps[j].log[h'] := by
        have h5 : ps[j].log[h']? = some ps[j].log[h'] := List.getElem?_eq_getElem hht
        have h6 : h' < n := by rw [hn, List.length_take] at hht; omega
        rw [← h5, hn, List.getElem?_take_of_lt h6]
       refine J_region ?_
       refine Lq (Q_move rfl) ?_
       refine Lq (Q_move rfl) ?_
       refine Lq (Q_ixAt 1 i rfl rfl rfl rfl hit rfl) ?_
       refine Lq (Q_pfa rfl) ?_
       refine Lq (Q_ldEAt 1 i 1 (v := .int .i64 l[i].h) rfl rfl rfl rfl hit (by decide) rfl) ?_
       refine Lq ((Q_geq rfl rfl).as (v' := .bool true) (congrArg Value.bool (decide_eq_true d5))) ?_
       refine Lq (Q_move rfl) ?_
       refine Lq (Q_move rfl) ?_
       refine Lq (Q_move rfl) ?_
       refine Lq (Q_ixAt 1 i rfl rfl rfl rfl hit rfl) ?_
       refine Lq (Q_pfa rfl) ?_
       refine Lq (Q_ldEAt 1 i 1 (v := .int .i64 l[i].h) rfl rfl rfl rfl hit (by decide) rfl) ?_
       refine Lq (Q_move rfl) ?_
       refine Lq (Q_lenAt 0 rfl rfl) ?_
       refine Lq ((Q_lss rfl rfl).as (v' := .bool true) (congrArg Value.bool (decide_eq_true d6))) ?_
       refine Lq (Q_pickT rfl rfl) ?_
       refine Ln ?_
       refine J_condT rfl ?_
       by_cases hok : ∃ f' : Nat, l[i].f = (f' : Int) ∧ OkF hd f' h' ps[j].log[h']
       ·obtain ⟨f', e1, hok⟩ := hok
        have hput := fputT_ok E pf f' h' (tn : Int) hd tl ps[j].log[h'] hok (by omega) (hcb h' ps[j].log[h'])
        rw [← e1, ← he] at hput
        refine DH [1,0] [0,1,2,3,4,5,6,7,8,9,10,11,12,13,14,15,16,17,18] (.quiet 0 (.quiet 1 (.quiet 2 (.quiet 3 (.quiet 4 (.quiet 5 (.quiet 6 (.quiet 7 (.quiet 8 (.quiet 9 (.quiet 10 (.quiet 11 (.quiet 12 (.quiet 13 (.quiet 14 (.quiet 15 (.quiet 16 (.quiet 17 (.quiet 18 (.loud 19 .done)))))))))))))))))))) Tryz.mixed ?_
        refine Sq (Ent.re [1,0] rfl) rfl (Q_move rfl) ?_
        refine Sq (Ent.re [1,0] rfl) rfl (Q_move rfl) ?_
        refine Sq (Ent.re [1,0] rfl) rfl (Q_move rfl) ?_
        refine Sq (Ent.re [1,0] rfl) rfl (Q_ixAt 0 i rfl rfl rfl rfl hit rfl) ?_
        refine Sq (Ent.re [1,0] rfl) rfl (Q_pfa rfl) ?_
        refine Sq (Ent.re [1,0] rfl) rfl (Q_ldEAt 0 i 0 (v := .int .i64 l[i].f) rfl rfl rfl rfl hit (by decide) rfl) ?_
        refine Sq (Ent.re [1,0] rfl) rfl (Q_move rfl) ?_
        refine Sq (Ent.re [1,0] rfl) rfl (Q_move rfl) ?_
        refine Sq (Ent.re [1,0] rfl) rfl (Q_ixAt 0 i rfl rfl rfl rfl hit rfl) ?_
        refine Sq (Ent.re [1,0] rfl) rfl (Q_pfa rfl) ?_
        refine Sq (Ent.re [1,0] rfl) rfl (Q_ldEAt 0 i 1 (v := .int .i64 l[i].h) rfl rfl rfl rfl hit (by decide) rfl) ?_
        refine Sq (Ent.re [1,0] rfl) rfl (Q_move rfl) ?_
        refine Sq (Ent.re [1,0] rfl) rfl (Q_move rfl) ?_
        refine Sq (Ent.re [1,0] rfl) rfl (Q_move rfl) ?_
        refine Sq (Ent.re [1,0] rfl) rfl (Q_ixAt 0 i rfl rfl rfl rfl hit rfl) ?_
        refine Sq (Ent.re [1,0] rfl) rfl (Q_pfa rfl) ?_
        refine Sq (Ent.re [1,0] rfl) rfl (Q_ldEAt 0 i 1 (v := .int .i64 l[i].h) rfl rfl rfl rfl hit (by decide) rfl) ?_
        refine Sq (Ent.re [1,0] rfl) rfl (Q_ixAt 1 h' rfl rfl rfl he hht rfl) ?_
        refine Sq (Ent.re [1,0] rfl) rfl (Q_ldEAt 1 h' 0 (v := str ps[j].log[h']) rfl rfl rfl rfl hht (by decide) rfl) ?_
        refine S_o rfl rfl rfl rfl (O_call [5,6] [0,1,2,3,4,7] hput rfl rfl ?_)
        (rintro _ _ ⟨m, rfl, rfl⟩; refine ⟨[], free_no (by kernel_rfl), ?_⟩)
        refine JS.norm ?_
        refine S_nil ?_
        refine blockQ_normal ?_
        refine seqQ_normal ?_
        refine J_region ?_
        refine Lq (Q_move rfl) ?_
        refine Lq (Q_add rfl rfl (by first | exact IntWalk.i64_in _ (by omega) | exact IntWalk.u8_in _ (by omega) | exact IntWalk.u32_in _ (by omega) | exact IntWalk.u64_in _ (by omega) | rfl)) ?_
        refine Lq (Q_assign rfl) ?_
        refine JL_nil ?_
        exact loopQ_normal ⟨i + 1, updB hd (h' * 8 + f'), updG tl h' (addG (tl h') m ps[j].log[h'] (tn + 1)), sayS s h' f' ps[j].log[h']⟩ ⟨hit, hF.put hok (fun _ => hlgh) m⟩ (by show l.length - (i + 1) < l.length - i; omega) ⟨rfl, rfl, rfl, rfl, rfl, rfl, trivial⟩ (Ent.pick [3,4,5,6,0,1,7] _ rfl)
       ·have hput := fputF_ok E pf l[i].f l[i].h (tn : Int) hd tl ps[j].log[h'] (fun f' h2 e1 e2 h => hok ⟨f', e1, by obtain rfl : h' = h2 := (by omega); exact h⟩)
        refine DH [1,0] [0,1,2,3,4,5,6,7,8,9,10,11,12,13,14,15,16,17,18] (.quiet 0 (.quiet 1 (.quiet 2 (.quiet 3 (.quiet 4 (.quiet 5 (.quiet 6 (.quiet 7 (.quiet 8 (.quiet 9 (.quiet 10 (.quiet 11 (.quiet 12 (.quiet 13 (.quiet 14 (.quiet 15 (.quiet 16 (.quiet 17 (.quiet 18 (.loud 19 .done)))))))))))))))))))) Tryz.mixed ?_
        refine Sq (Ent.re [1,0] rfl) rfl (Q_move rfl) ?_
        refine Sq (Ent.re [1,0] rfl) rfl (Q_move rfl) ?_
        refine Sq (Ent.re [1,0] rfl) rfl (Q_move rfl) ?_
        refine Sq (Ent.re [1,0] rfl) rfl (Q_ixAt 0 i rfl rfl rfl rfl hit rfl) ?_
        refine Sq (Ent.re [1,0] rfl) rfl (Q_pfa rfl) ?_
        refine Sq (Ent.re [1,0] rfl) rfl (Q_ldEAt 0 i 0 (v := .int .i64 l[i].f) rfl rfl rfl rfl hit (by decide) rfl) ?_
        refine Sq (Ent.re [1,0] rfl) rfl (Q_move rfl) ?_
        refine Sq (Ent.re [1,0] rfl) rfl (Q_move rfl) ?_
        refine Sq (Ent.re [1,0] rfl) rfl (Q_ixAt 0 i rfl rfl rfl rfl hit rfl) ?_
        refine Sq (Ent.re [1,0] rfl) rfl (Q_pfa rfl) ?_
        refine Sq (Ent.re [1,0] rfl) rfl (Q_ldEAt 0 i 1 (v := .int .i64 l[i].h) rfl rfl rfl rfl hit (by decide) rfl) ?_
        refine Sq (Ent.re [1,0] rfl) rfl (Q_move rfl) ?_
        refine Sq (Ent.re [1,0] rfl) rfl (Q_move rfl) ?_
        refine Sq (Ent.re [1,0] rfl) rfl (Q_move rfl) ?_
        refine Sq (Ent.re [1,0] rfl) rfl (Q_ixAt 0 i rfl rfl rfl rfl hit rfl) ?_
        refine Sq (Ent.re [1,0] rfl) rfl (Q_pfa rfl) ?_
        refine Sq (Ent.re [1,0] rfl) rfl (Q_ldEAt 0 i 1 (v := .int .i64 l[i].h) rfl rfl rfl rfl hit (by decide) rfl) ?_
        refine Sq (Ent.re [1,0] rfl) rfl (Q_ixAt 1 h' rfl rfl rfl he hht rfl) ?_
        refine Sq (Ent.re [1,0] rfl) rfl (Q_ldEAt 1 h' 0 (v := str ps[j].log[h']) rfl rfl rfl rfl hht (by decide) rfl) ?_
        refine S_o rfl rfl rfl rfl (O_call [5] [0,1,2,3,4,6,7] hput rfl rfl ?_)
        (rintro _ _ ⟨rfl, rfl⟩; refine ⟨[], free_no (by kernel_rfl), ?_⟩)
        refine JS.norm ?_
        refine S_nil ?_
        refine blockQ_normal ?_
        refine seqQ_normal ?_
        refine J_region ?_
        refine Lq (Q_move rfl) ?_
        refine Lq (Q_add rfl rfl (by first | exact IntWalk.i64_in _ (by omega) | exact IntWalk.u8_in _ (by omega) | exact IntWalk.u32_in _ (by omega) | exact IntWalk.u64_in _ (by omega) | rfl)) ?_
        refine Lq (Q_assign rfl) ?_
        refine JL_nil ?_
        exact loopQ_normal ⟨i + 1, hd, tl, s⟩ ⟨hit, hF⟩ (by show l.length - (i + 1) < l.length - i; omega) ⟨rfl, rfl, rfl, rfl, rfl, rfl, trivial⟩ (Ent.re [2,3,4,5,0,6,7] rfl)
      ·skip
       refine J_region ?_
       refine Lq (Q_move rfl) ?_
       refine Lq (Q_move rfl) ?_
       refine Lq (Q_ixAt 1 i rfl rfl rfl rfl hit rfl) ?_
       refine Lq (Q_pfa rfl) ?_
       refine Lq (Q_ldEAt 1 i 1 (v := .int .i64 l[i].h) rfl rfl rfl rfl hit (by decide) rfl) ?_
       refine Lq ((Q_geq rfl rfl).as (v' := .bool true) (congrArg Value.bool (decide_eq_true d5))) ?_
       refine Lq (Q_move rfl) ?_
       refine Lq (Q_move rfl) ?_
       refine Lq (Q_move rfl) ?_
       refine Lq (Q_ixAt 1 i rfl rfl rfl rfl hit rfl) ?_
       refine Lq (Q_pfa rfl) ?_
       refine Lq (Q_ldEAt 1 i 1 (v := .int .i64 l[i].h) rfl rfl rfl rfl hit (by decide) rfl) ?_
       refine Lq (Q_move rfl) ?_
       refine Lq (Q_lenAt 0 rfl rfl) ?_
       refine Lq ((Q_lss rfl rfl).as (v' := .bool false) (congrArg Value.bool (decide_eq_false d6))) ?_
       refine Lq (Q_pickT rfl rfl) ?_
       refine Ln ?_
       refine J_condF rfl ?_
       refine J_skip ?_
       refine blockQ_normal ?_
       refine seqQ_normal ?_
       refine J_region ?_
       refine Lq (Q_move rfl) ?_
       refine Lq (Q_add rfl rfl (by first | exact IntWalk.i64_in _ (by omega) | exact IntWalk.u8_in _ (by omega) | exact IntWalk.u32_in _ (by omega) | exact IntWalk.u64_in _ (by omega) | rfl)) ?_
       refine Lq (Q_assign rfl) ?_
       refine JL_nil ?_
       exact loopQ_normal ⟨i + 1, hd, tl, s⟩ ⟨hit, hF⟩ (by show l.length - (i + 1) < l.length - i; omega) ⟨rfl, rfl, rfl, rfl, rfl, rfl, trivial⟩ (Ent.re [1,2,3,4,5,6,7] rfl)
     ·skip
      refine J_region ?_
      refine Lq (Q_move rfl) ?_
      refine Lq (Q_move rfl) ?_
      refine Lq (Q_ixAt 1 i rfl rfl rfl rfl hit rfl) ?_
      refine Lq (Q_pfa rfl) ?_
      refine Lq (Q_ldEAt 1 i 1 (v := .int .i64 l[i].h) rfl rfl rfl rfl hit (by decide) rfl) ?_
      refine Lq ((Q_geq rfl rfl).as (v' := .bool false) (congrArg Value.bool (decide_eq_false d5))) ?_
      refine Lq (Q_move rfl) ?_
      refine L_n rfl rfl rfl ?_
      refine L_n rfl rfl rfl ?_
      refine L_n rfl rfl rfl ?_
      refine L_n rfl rfl rfl ?_
      refine L_n rfl rfl rfl ?_
      refine L_n rfl rfl rfl ?_
      refine L_n rfl rfl rfl ?_
      refine L_n rfl rfl rfl ?_
      refine Lq (Q_pickF rfl rfl) ?_
      refine Ln ?_
      refine J_condF rfl ?_
      refine J_skip ?_
      refine blockQ_normal ?_
      refine seqQ_normal ?_
      refine J_region ?_
      refine Lq (Q_move rfl) ?_
      refine Lq (Q_add rfl rfl (by first | exact IntWalk.i64_in _ (by omega) | exact IntWalk.u8_in _ (by omega) | exact IntWalk.u32_in _ (by omega) | exact IntWalk.u64_in _ (by omega) | rfl)) ?_
      refine Lq (Q_assign rfl) ?_
      refine JL_nil ?_
      exact loopQ_normal ⟨i + 1, hd, tl, s⟩ ⟨hit, hF⟩ (by show l.length - (i + 1) < l.length - i; omega) ⟨rfl, rfl, rfl, rfl, rfl, rfl, trivial⟩ (Ent.re [1,2,3,4,5,6,7] rfl)
   ·skip
    refine J_region ?_
    refine Lq (Q_move rfl) ?_
    refine Lq (Q_move rfl) ?_
    refine Lq (Q_ixAt 0 i rfl rfl rfl rfl hit rfl) ?_
    refine Lq (Q_pfa rfl) ?_
    refine Lq (Q_ldEAt 0 i 0 (v := .int .i64 l[i].f) rfl rfl rfl rfl hit (by decide) rfl) ?_
    refine Lq ((Q_geq rfl rfl).as (v' := .bool false) (congrArg Value.bool (decide_eq_false d1))) ?_
    refine Lq (Q_move rfl) ?_
    refine L_n rfl rfl rfl ?_
    refine L_n rfl rfl rfl ?_
    refine L_n rfl rfl rfl ?_
    refine L_n rfl rfl rfl ?_
    refine L_n rfl rfl rfl ?_
    refine L_n rfl rfl rfl ?_
    refine L_n rfl rfl rfl ?_
    refine Lq (Q_pickF rfl rfl) ?_
    refine Ln ?_
    refine J_condF rfl ?_
    refine J_skip ?_
    refine seqQ_normal ?_
    refine J_seq ?_
    refine Sr ?_
    refine Lq (Q_move rfl) ?_
    refine Lq (Q_move rfl) ?_
    refine Lq (Q_ixAt 0 i rfl rfl rfl rfl hit rfl) ?_
    refine Lq (Q_pfa rfl) ?_
    refine Lq (Q_ldEAt 0 i 0 (v := .int .i64 l[i].f) rfl rfl rfl rfl hit (by decide) rfl) ?_
    refine Lq ((Q_lss rfl rfl).as (v' := .bool true) (congrArg Value.bool (decide_eq_true (by omega)))) ?_
    refine Lq (Q_move rfl) ?_
    refine L_n rfl rfl rfl ?_
    refine L_n rfl rfl rfl ?_
    refine L_n rfl rfl rfl ?_
    refine L_n rfl rfl rfl ?_
    refine L_n rfl rfl rfl ?_
    refine L_n rfl rfl rfl ?_
    refine L_n rfl rfl rfl ?_
    refine L_n rfl rfl rfl ?_
    refine L_n rfl rfl rfl ?_
    refine L_n rfl rfl rfl ?_
    refine Lq (Q_pickT rfl rfl) ?_
    refine Ln ?_
    refine J_condT rfl ?_
    refine J_exit ?_
    refine seqQ_exit ?_
    refine blockQ_hit ?_
    refine seqQ_normal ?_
    refine J_region ?_
    refine Lq (Q_move rfl) ?_
    refine Lq (Q_add rfl rfl (by first | exact IntWalk.i64_in _ (by omega) | exact IntWalk.u8_in _ (by omega) | exact IntWalk.u32_in _ (by omega) | exact IntWalk.u64_in _ (by omega) | rfl)) ?_
    refine Lq (Q_assign rfl) ?_
    refine JL_nil ?_
    exact loopQ_normal ⟨i + 1, hd, tl, s⟩ ⟨hit, hF⟩ (by show l.length - (i + 1) < l.length - i; omega) ⟨rfl, rfl, rfl, rfl, rfl, rfl, trivial⟩ (Ent.refl _)
  ·refine J_exit ?_
   refine seqQ_exit ?_
   refine loopQ_exit ?_
   refine blockQ_hit ?_
   refine seqQ_normal ?_
   refine Sr ?_
   refine Lq (Q_move rfl) ?_
   refine L_o rfl rfl rfl (O_call [4] [0,1,2,3,5,6] (flog_ok E pf (tn : Int) hd tl) rfl rfl ?_)
   rintro _ _ ⟨kk, S, hk64, g1, g2, rfl, rfl⟩
   refine JL.norm ?_
   refine Lq (Q_assign rfl) ?_
   refine Ln ?_
   refine J_seq ?_
   obtain ⟨hle, heq⟩ := hF.pre ht2 g1
   rw [heq]
   have hln : (lg.take kk).length = kk := by rw [List.length_take]; omega
   have hS : RdyS E (star (slc tS true S (lg.take kk)) (slc tS true Sg lg)) S (lg.take kk) := RdyS.left RdyS.slc
   have hG : RdyS E (star (slc tS true S (lg.take kk)) (slc tS true Sg lg)) Sg lg := RdyS.right RdyS.slc
   have htx := rtextsE_ok E _ S (Sg.sub 1 0 kk) (lg.take kk) hS (hG.sub kk hle) (by omega)
   refine J.ent ((Ent.re [1,4,7] rfl).trans Ent.star_in) ?_
   generalize star (slc tS true S (lg.take kk)) (slc tS true Sg lg) = C at *
   refine J_region ?_
   refine Lq (Q_move rfl) ?_
   refine Lq ((Q_len (m := lg.take kk) (fun w hs => hS w _ hs) rfl).as (v' := .int .i64 (kk : Int)) (by rw [hln])) ?_
   refine Lq (Q_move rfl) ?_
   refine Lq (Q_len (m := lg) (fun w hs => hG w _ hs) rfl) ?_
   refine Lq ((Q_leq rfl rfl).as (v' := .bool true) (congrArg Value.bool (decide_eq_true (by omega)))) ?_
   refine Lq (Q_move rfl) ?_
   refine Lq (Q_move rfl) ?_
   refine Lq (Q_move rfl) ?_
   refine Lq (Q_move rfl) ?_
   refine Lq ((Q_len (m := lg.take kk) (fun w hs => hS w _ hs) rfl).as (v' := .int .i64 (kk : Int)) (by rw [hln])) ?_
   refine Lq (Q_slH (τ := tS) (m := lg) kk (fun w hs => hG w _ hs) rfl rfl rfl hle rfl) ?_
   refine L_o rfl rfl rfl (O_call [0] [1] htx rfl rfl ?_)
   rintro _ _ ⟨rfl, rfl⟩
   refine JL.norm ?_
   refine Lq (Q_pickT rfl rfl) ?_
   refine Lq (Q_move rfl) ?_
   refine L_o rfl rfl rfl (O_call [] [0,1] hal rfl rfl ?_)
   rintro _ _ ⟨rfl, rfl⟩
   refine JL.norm ?_
   refine Lq (Q_pickT rfl rfl) ?_
   refine Lq (Q_assign rfl) ?_
   refine Ln ?_
   refine J_ret ?_
   exact retQ_ret _ [] (.cons (RV_tmp rfl) .nil) ⟨rfl, rfl⟩ (Ent.re [1] rfl)
end Go.Proofs
/- The law TopFollows, from its arguments' readings. -/
set_option autoImplicit false
namespace Go.Proofs
open Go.SL Go.RowKit Go.Proofs.Bt
def lsTo : List Leaf := [.int .i64, .int .i64, .str]
theorem to_in {vs : List Value} (h : LeafsOk lsTo vs) : ∃ d : To, vs = tTo.enc d ∧ d.f ≤ 9223372036854775807 := by
 obtain ⟨a, r, rfl, ha, h⟩ := leafs_int h
 obtain ⟨b, r, rfl, _, h⟩ := leafs_int h
 obtain ⟨s, r, rfl, _, h⟩ := leafs_str h
 obtain rfl := leafs_nil h
 exact ⟨⟨a, b, s⟩, rfl, (wf_i64 ha).2⟩
theorem ss_in {W : World} {vs : List Value} (h : CellRows W [.str] vs) : ∃ S : SV, vs = tSs.enc S ∧ ∃ m : List Ky, ∀ g, slc tS false S m W g := by
 obtain ⟨v, rfl, h⟩ := h
 obtain ⟨S, m, rfl, _, _, _, h3⟩ := h.slc tS (ok := fun _ => True) (fun r hr => by
  obtain ⟨s, r, rfl, _, h⟩ := leafs_str hr
  obtain rfl := leafs_nil h
  exact ⟨s, rfl, trivial⟩)
 exact ⟨S, rfl, m, h3⟩
theorem follows_calls (W : World) (v0 v1 v2 : Value) (h0 : ∃ n, v0 = .int .i64 n ∧ (Lit.int .i64 n).wf = true) (h1 : InRowsR W (CellRows W [.str]) v1) (h2 : InRows W lsTo v2) : Calls Tryz.prog 3 #[v0, v1, v2] W fun e w' => e = .returned (.bool true) ∧ Below W.heap.size W w' := by
 obtain ⟨t, rfl, _⟩ := h0
 obtain ⟨Sa, Gs, rfl, _, _, hg, g1⟩ := h1.slc tSs (ok := fun S => ∃ m : List Ky, ∀ g, slc tS false S m W g) (fun r hr => ss_in hr)
 obtain ⟨Sl, l, rfl, _, _, hl, g2⟩ := h2.slc tTo (ok := fun d => d.f ≤ 9223372036854775807) (fun r hr => to_in hr)
 refine law_calls (follows_ok W t Sa Sl Gs l hg hl) (fun v L h => h.1) ?_
 intro c hc
 rcases List.mem_cons.1 hc with rfl | hc
 ·exact g1
 ·rw [List.mem_singleton.1 hc]; exact g2
end Go.Proofs
