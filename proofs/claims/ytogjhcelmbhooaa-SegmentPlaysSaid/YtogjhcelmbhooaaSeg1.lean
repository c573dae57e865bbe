/- A log in files: how it lies in cells; its numbers. -/
import Derived.Test.YtogjhcelmbhooaaSegP
import Derived.Test.YtogjhcelmbhooaaSl17
import Derived.Test.YtogjhcelmbhooaaRecF
import Derived.Test.YtogjhcelmbhooaaDisk
set_option autoImplicit false
namespace Go.Proofs
open Go.SL
def tI : Ty Nat := ⟨3, 1, fun n => [.int .i64 (n : Int)], fun _ => rfl, by decide, fun a v hv => by simp at hv; subst hv; rfl⟩
instance : TyU Try.prog tI.e (.int .i64) := inferInstanceAs (TyU Try.prog 3 (.int .i64))
instance : TyI Try.prog tI.e 1 (.int .i64 0) 8 := inferInstanceAs (TyI Try.prog 3 1 (.int .i64 0) 8)
instance : TyU Try.prog 76 (.slice tI.e) := inferInstanceAs (TyU Try.prog 76 (.slice 3))
abbrev Fp := Fl × Nat
def tPf : Ty Fp := ⟨73, 1, fun r => [.pointer (some ⟨r.2, 0, none⟩)], fun _ => rfl, by decide, fun a v hv => by simp at hv; subst hv; rfl⟩
instance : TyU Try.prog tPf.e (.pointer 78) := inferInstanceAs (TyU Try.prog 73 (.pointer 78))
instance : TyI Try.prog tPf.e 1 (.pointer none) 8 := inferInstanceAs (TyI Try.prog 73 1 (.pointer none) 8)
instance : TyU Try.prog 58 (.slice tPf.e) := inferInstanceAs (TyU Try.prog 58 (.slice 73))
def fileAt (r : Fp) : HProp := hex fun x : SV × Nat => star (cel r.2 [.int .i64 (r.1.first : Int), x.1.v, .pointer (some ⟨x.2, 0, none⟩)] 78) (star (slc tI true x.1 (ends r.1.l)) (diskAt x.2 r.1.d))
theorem fileAt_mk {f : Fl} {q : Nat} {S : SV} {dp : Nat} {t : Nat} {fi : Nat} {es : List Nat} {d : Dk} {R : List HProp} (ht : t = 78) (h1 : fi = f.first) (h2 : es = ends f.l) (h3 : d = f.d) :
    Ent (cel q [.int .i64 (fi : Int), S.v, .pointer (some ⟨dp, 0, none⟩)] t :: slc tI true S es :: diskAt dp d :: R) (fileAt (f, q) :: R) := by
  subst ht h1 h2 h3
  refine Ent.mk fun E w h => Sat.mkex (S, dp) (Sat.mkstar ?_)
  have h1 : Sat E w (slc tI true S (ends f.l) :: diskAt dp f.d :: cel q [.int .i64 (f.first : Int), S.v, .pointer (some ⟨dp, 0, none⟩)] 78 :: R) := by
    have := Sat.two (A := []) h
    exact Sat.two (A := [_]) this
  have h2 := Sat.mkstar h1
  exact Sat.two (A := []) h2
attribute [local irreducible] J JL QOp JOp seqQ blockQ loopQ retQ slc cel hex star pur stars Does RV Ent pAt
attribute [local irreducible] fileAt
/-- The pointer to the last file. -/
def lastP (ps : List Fp) : Value := match ps.getLast? with
  | none => .pointer none
  | some r => .pointer (some ⟨r.2, 0, none⟩)
theorem lastP_snoc (ps : List Fp) (f : Fl) (q : Nat) : lastP (ps ++ [(f, q)]) = .pointer (some ⟨q, 0, none⟩) := by simp [lastP]
theorem fnext_ok (E : World) (f : Fl) (q : Nat) (h : f.next ≤ 10000000) : Does Try.prog E 35 [.pointer (some ⟨q, 0, none⟩)] [fileAt (f, q)] fun v L => v = .int .i64 (f.next : Int) ∧ L = [fileAt (f, q)] := by
  have h' : f.first + f.l.length ≤ 10000000 := h
  have hl := ends_len f.l
  refine Does.of Try.func35 rfl Try.ntmps35 rfl rfl fun F => ?_
  refine J.norm ?_
  unfold fileAt
  refine J.ex fun x => J.star (J.pick [1, 0, 2] rfl (J.norm (J.star (J.pick [2, 0, 1, 3] rfl (J.norm ?_)))))
  dsimp only
  refine J_seq ?_
  refine J_region ?_
  refine L_q (Q_assign rfl) rfl rfl rfl ?_
  refine JL_nil ?_
  refine seqQ_normal ?_
  refine J_seq ?_
  refine J_drawL [0, 1, 2, 3, 4, 5, 6, 7, 8, 9, 10] (.quiet 0 (.quiet 1 (.quiet 2 (.quiet 3 (.quiet 4 (.quiet 5 (.quiet 6 (.quiet 7 (.quiet 8 (.quiet 9 (.quiet 10 .done))))))))))) Try.mixed (by kernel_rfl) (by kernel_rfl) (by repeat (first | exact retQ_noP | refine seqQ_noP ?_ | refine blockQ_noP ?_ | refine loopQ_noP ?_ | refine scopeQ_noP ?_)) ?_
  refine S_q (Ent.refl _) rfl (Q_move rfl) rfl rfl rfl ?_
  refine S_q (Ent.refl _) rfl (Q_nilCheck rfl) rfl rfl rfl ?_
  refine S_q (Ent.refl _) rfl (Q_fa0 rfl) rfl rfl rfl ?_
  refine S_q (Ent.refl _) rfl (Q_ld 0 rfl rfl rfl rfl) rfl rfl rfl ?_
  refine S_q (Ent.refl _) rfl (Q_move rfl) rfl rfl rfl ?_
  refine S_q (Ent.refl _) rfl (Q_nilCheck rfl) rfl rfl rfl ?_
  refine S_q (Ent.refl _) rfl (Q_fa0 rfl) rfl rfl rfl ?_
  refine S_q (Ent.refl _) rfl (Q_ld 0 rfl rfl rfl rfl) rfl rfl rfl ?_
  refine S_q (Ent.refl _) rfl (Q_lenAt 1 rfl rfl) rfl rfl rfl ?_
  refine S_q (Ent.refl _) rfl (Q_add rfl rfl (by first | exact IntWalk.i64_in _ (by omega) | exact IntWalk.u8_in _ (by omega) | exact IntWalk.u32_in _ (by omega) | exact IntWalk.u64_in _ (by omega) | rfl)) rfl rfl rfl ?_
  refine S_q (Ent.refl _) rfl (Q_assign rfl) rfl rfl rfl ?_
  refine S_nil ?_
  refine seqQ_normal ?_
  refine J_ret ?_
  refine retQ_ret _ [fileAt (f, q)] (.cons (RV_tmp rfl) .nil) ⟨?_, by unfold fileAt; rfl⟩ (by
    have := fileAt_mk (f := f) (q := q) (S := x.1) (dp := x.2) (R := [F]) rfl rfl rfl rfl
    exact this)
  simp only [Fl.next, hl, oneOf]
  congr 1
theorem last_ok (E : World) (p size sure : Nat) (S : SV) (ps : List Fp) (hps : ps.length ≤ 16) : Does Try.prog E 34 [.pointer (some ⟨p, 0, none⟩)] [cel p [.int .i64 (size : Int), .int .i64 (sure : Int), S.v] 60, slc tPf true S ps] fun v L => v = lastP ps ∧ L = [cel p [.int .i64 (size : Int), .int .i64 (sure : Int), S.v] 60, slc tPf true S ps] := by
  refine Does.of Try.func34 rfl Try.ntmps34 rfl rfl fun F => ?_
  refine J.norm ?_
  refine J_seq ?_
  refine J_region ?_
  refine L_q (Q_assign rfl) rfl rfl rfl ?_
  refine JL_nil ?_
  refine seqQ_normal ?_
  refine J_seq ?_
  refine J_seq ?_
  refine J_region ?_
  refine L_q (Q_move rfl) rfl rfl rfl ?_
  refine L_q (Q_peql rfl rfl) rfl rfl rfl ?_
  refine L_q (Q_move rfl) rfl rfl rfl ?_
  refine L_q (Q_move rfl) rfl rfl rfl ?_
  refine L_q (Q_nilCheck rfl) rfl rfl rfl ?_
  refine L_q (Q_fa0 rfl) rfl rfl rfl ?_
  refine L_q (Q_ld 0 rfl rfl rfl rfl) rfl rfl rfl ?_
  refine L_q (Q_lenAt 1 rfl rfl) rfl rfl rfl ?_
  refine L_q (Q_eql rfl rfl) rfl rfl rfl ?_
  refine L_q (Q_pickF rfl rfl) rfl rfl rfl ?_
  refine JL_nil ?_
  refine seqQ_normal ?_
  rcases last_cases ps with rfl | ⟨a, ⟨f, q⟩, rfl⟩
  · refine J_condD rfl (fun h => ?_) (fun h => absurd rfl h)
    refine J_seq ?_
    refine J_region ?_
    refine L_q (Q_assign rfl) rfl rfl rfl ?_
    refine JL_nil ?_
    refine seqQ_normal ?_
    refine J_ret ?_
    refine seqQ_ret ?_
    exact retQ_ret _ [cel p [.int .i64 (size : Int), .int .i64 (sure : Int), S.v] 60, slc tPf true S []] (.cons (RV_tmp rfl) .nil) ⟨rfl, rfl⟩ (Ent.refl _)
  · refine J_condD rfl (fun h => absurd h (by simp; omega)) (fun h => ?_)
    have hlen : (a ++ [(f, q)]).length = a.length + 1 := by simp
    rw [hlen] at hps
    have hlt : a.length < (a ++ [(f, q)]).length := by omega
    have hg : (a ++ [(f, q)])[a.length] = (f, q) := by simp
    rw [lastP_snoc]
    refine J_skip ?_
    refine seqQ_normal ?_
    refine J_seq ?_
    refine J_drawH [0,1] [0, 1, 2, 3, 4, 5, 6, 7, 8, 9, 10, 11, 12] (.quiet 0 (.quiet 1 (.quiet 2 (.quiet 3 (.quiet 4 (.quiet 5 (.quiet 6 (.quiet 7 (.quiet 8 (.quiet 9 (.quiet 10 (.quiet 11 (.quiet 12 .done))))))))))))) Try.mixed (by kernel_rfl) (by kernel_rfl) (by repeat (first | exact retQ_noP | refine seqQ_noP ?_ | refine blockQ_noP ?_ | refine loopQ_noP ?_ | refine scopeQ_noP ?_)) ?_
    refine S_q (Ent.re [0,1] rfl) rfl (Q_move rfl) rfl rfl rfl ?_
    refine S_q (Ent.re [0,1] rfl) rfl (Q_nilCheck rfl) rfl rfl rfl ?_
    refine S_q (Ent.re [0,1] rfl) rfl (Q_fa0 rfl) rfl rfl rfl ?_
    refine S_q (Ent.re [0,1] rfl) rfl (Q_ld 0 rfl rfl rfl rfl) rfl rfl rfl ?_
    refine S_q (Ent.re [0,1] rfl) rfl (Q_move rfl) rfl rfl rfl ?_
    refine S_q (Ent.re [0,1] rfl) rfl (Q_nilCheck rfl) rfl rfl rfl ?_
    refine S_q (Ent.re [0,1] rfl) rfl (Q_fa0 rfl) rfl rfl rfl ?_
    refine S_q (Ent.re [0,1] rfl) rfl (Q_ld 0 rfl rfl rfl rfl) rfl rfl rfl ?_
    refine S_q (Ent.re [0,1] rfl) rfl (Q_lenAt 1 rfl rfl) rfl rfl rfl ?_
    refine S_q (Ent.re [0,1] rfl) rfl (Q_sub rfl rfl (IntWalk.i64_in _ (by omega))) rfl rfl rfl ?_
    refine S_q (Ent.re [0,1] rfl) rfl (Q_ixAt 1 a.length rfl rfl rfl (by rw [hlen]; omega) hlt rfl) rfl rfl rfl ?_
    refine S_q (Ent.re [0,1] rfl) rfl (Q_ldEAt 1 a.length 0 (v := .pointer (some ⟨q, 0, none⟩)) rfl rfl rfl rfl hlt (by decide) (by rw [hg]; rfl)) rfl rfl rfl ?_
    refine S_q (Ent.re [0,1] rfl) rfl (Q_assign rfl) rfl rfl rfl ?_
    refine S_nil ?_
    refine seqQ_normal ?_
    refine J_ret ?_
    exact retQ_ret _ [cel p [.int .i64 (size : Int), .int .i64 (sure : Int), S.v] 60, slc tPf true S (a ++ [(f, q)])] (.cons (RV_tmp rfl) .nil) ⟨rfl, rfl⟩ (Ent.refl _)
end Go.Proofs
