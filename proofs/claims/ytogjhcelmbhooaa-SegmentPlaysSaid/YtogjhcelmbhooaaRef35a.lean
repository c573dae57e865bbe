/- The document's log in files: how it lies in cells; its numbers; another last file; a sync. -/
import Derived.Test.YtogjhcelmbhooaaSegQ
import Derived.Test.YtogjhcelmbhooaaSeg1
import Derived.Test.YtogjhcelmbhooaaRefF
import Derived.Test.YtogjhcelmbhooaaRef18
import Derived.Test.YtogjhcelmbhooaaSl18
set_option autoImplicit false
namespace Go.Proofs
open Go.SL
abbrev Fr := Fl × SV
def tF : Ty Fr := ⟨65, 4, fun r => [.int .i64 (r.1.first : Int), str (text r.1.l), .int .i64 (r.1.s : Int), r.2.v], fun _ => rfl, by decide, fun a v hv => by simp at hv; rcases hv with rfl | rfl | rfl | rfl <;> rfl⟩
instance : TyI Try.prog tF.e 4 (.agg #[.int .i64 0, .string ⟨#[]⟩, .int .i64 0, .slice none 0 0]) 56 := inferInstanceAs (TyI Try.prog 65 4 (.agg #[.int .i64 0, .string ⟨#[]⟩, .int .i64 0, .slice none 0 0]) 56)
instance : TyU Try.prog 27 (.slice tF.e) := inferInstanceAs (TyU Try.prog 27 (.slice 65))
abbrev frV (r : Fr) : Value := .agg #[.int .i64 (r.1.first : Int), str (text r.1.l), .int .i64 (r.1.s : Int), r.2.v]
abbrev refV (size sure : Nat) (X : SV) : Value := .agg #[.int .i64 (size : Int), .int .i64 (sure : Int), X.v]
def onR (rs : List Fr) (u : Fl → Fl) : List Fr := match rs.getLast? with
  | none => []
  | some r => rs.dropLast ++ [(u r.1, r.2)]
theorem onR_snoc (a : List Fr) (r : Fr) (u : Fl → Fl) : onR (a ++ [r]) u = a ++ [(u r.1, r.2)] := by simp [onR]
theorem snoc_get {α : Type} (a : List α) (x : α) (h : a.length < (a ++ [x]).length) : (a ++ [x])[a.length] = x := by simp
attribute [local irreducible] J JL QOp JOp seqQ blockQ loopQ retQ slc cel hex star pur stars Does RV Ent pAt scopeQ
theorem rlast_ok (E : World) (size sure : Nat) (X : SV) (a : List Fr) (r r' : Fr) (hl : a.length ≤ 100) : Does Try.prog E 30 [refV size sure X, frV r'] [slc tF true X (a ++ [r])] fun v L => ∃ X' : SV, v = refV size sure X' ∧ L = [slc tF true X' (a ++ [r'])] := by
  have hlen : (a ++ [r]).length = a.length + 1 := by simp
  have hlt : a.length < (a ++ [r]).length := by omega
  refine Does.of Try.func30 rfl Try.ntmps30 rfl rfl fun F => ?_
  refine J.norm ?_
  refine J_seq ?_
  refine J_region ?_
  refine L_o rfl rfl rfl (O_box rfl fun b2 => ?_)
  refine L_o rfl rfl rfl (O_box rfl fun b3 => ?_)
  refine L_o rfl rfl rfl (O_alloc fun b4 => ?_)
  refine JL_nil ?_
  refine seqQ_normal ?_
  refine J_seq ?_
  refine J.ent (Ent.mk fun _ _ h => (h.lay_nil tF true : Sat _ _ (slc tF true SV.nil [] :: _))) ?_
  refine J_region ?_
  refine L_q (Q_fa0 rfl) rfl rfl rfl ?_
  refine L_q (Q_ld 3 rfl rfl rfl rfl) rfl rfl rfl ?_
  refine L_o rfl rfl rfl (O_app (τ := tF) 0 rfl (fun w h => h.rd 4 rfl) rfl rfl rfl rfl (by rw [hlen, List.length_nil]; omega) (by decide) (fun X' => ?_))
  refine JL.norm ?_
  refine L_q (Q_assign rfl) rfl rfl rfl ?_
  refine JL_nil ?_
  refine seqQ_normal ?_
  refine J_seq ?_
  rw [List.nil_append]
  refine J_region ?_
  refine L_q (Q_move rfl) rfl rfl rfl ?_
  refine L_q (Q_move rfl) rfl rfl rfl ?_
  refine L_q (Q_lenAt 0 rfl rfl) rfl rfl rfl ?_
  refine L_q (Q_sub rfl rfl (IntWalk.i64_in _ (by omega))) rfl rfl rfl ?_
  refine L_q (Q_ldA 2 rfl rfl rfl) rfl rfl rfl ?_
  refine L_q (Q_ixAt 0 a.length rfl rfl rfl (by omega) hlt rfl) rfl rfl rfl ?_
  refine L_s rfl rfl (O_stE 0 a.length 0 r' rfl rfl rfl rfl rfl rfl (by intro c hc; simp [Value.cells] at hc; rcases hc with rfl | rfl | rfl | rfl <;> rfl) hlt (Nat.le_refl 4) (by simp [tF, Value.cells]) ?_)
  refine JL.norm ?_
  refine JL_nil ?_
  refine seqQ_normal ?_
  refine J_seq ?_
  rw [show (a ++ [r]).set a.length r' = a ++ [r'] by simp]
  refine J_region ?_
  refine L_q (Q_move rfl) rfl rfl rfl ?_
  refine L_q (Q_fa0 rfl) rfl rfl rfl ?_
  refine L_s rfl rfl (O_st1 3 rfl rfl rfl rfl rfl ?_)
  refine JL.norm ?_
  refine JL_nil ?_
  refine seqQ_normal ?_
  refine J_seq ?_
  refine J_region ?_
  refine L_q (Q_ldA 3 rfl rfl rfl) rfl rfl rfl ?_
  refine L_s rfl rfl (O_stW 1 rfl rfl rfl rfl ?_)
  refine JL.norm ?_
  refine JL_nil ?_
  refine seqQ_normal ?_
  refine J_ret ?_
  exact retQ_ret _ [slc tF true X' (a ++ [r'])] (.cons (RV_cell 1 rfl rfl rfl rfl) .nil) ⟨X', rfl, rfl⟩ (Ent.re [0, 5] rfl)
theorem rnext35_ok (E : World) (size sure : Nat) (X : SV) (rs : List Fr) (hl : rs.length ≤ 100) (hr : ∀ r ∈ rs, r.2.n = r.1.l.length ∧ r.1.next ≤ 10000000) : Does Try.prog E 23 [refV size sure X] [slc tF true X rs] fun v L => v = .int .i64 (nextOf (rs.map (·.1)) : Int) ∧ L = [slc tF true X rs] := by
  refine Does.of Try.func23 rfl Try.ntmps23 rfl rfl fun F => ?_
  refine J.norm ?_
  refine J_seq ?_
  refine J_region ?_
  refine L_o rfl rfl rfl (O_box rfl fun b1 => ?_)
  refine L_q (Q_assign rfl) rfl rfl rfl ?_
  refine JL_nil ?_
  refine seqQ_normal ?_
  refine J_seq ?_
  refine J_seq ?_
  rcases last_cases rs with rfl | ⟨a, r, rfl⟩
  · skip
    refine J_region ?_
    refine L_q (Q_fa0 rfl) rfl rfl rfl ?_
    refine L_q (Q_ld 0 rfl rfl rfl rfl) rfl rfl rfl ?_
    refine L_q (Q_lenAt 1 rfl rfl) rfl rfl rfl ?_
    refine L_q ((Q_eql rfl rfl).as (v' := .bool true) rfl) rfl rfl rfl ?_
    refine JL_nil ?_
    refine seqQ_normal ?_
    refine J_condT rfl ?_
    refine J_seq ?_
    refine J_region ?_
    refine L_q (Q_assign rfl) rfl rfl rfl ?_
    refine JL_nil ?_
    refine seqQ_normal ?_
    refine J_ret ?_
    refine seqQ_ret ?_
    exact retQ_ret _ [slc tF true X []] (.cons (RV_tmp rfl) .nil) ⟨rfl, rfl⟩ (Ent.re [1, 2] rfl)
  · have hlen : (a ++ [r]).length = a.length + 1 := by simp
    have hlt : a.length < (a ++ [r]).length := by omega
    have hgl := snoc_get a r hlt
    obtain ⟨h1, h2⟩ := hr r (by simp)
    have h3 : r.1.next = r.1.first + r.1.l.length := rfl
    rw [List.map_append, List.map_cons, List.map_nil, nextOf_snoc]
    refine J_region ?_
    refine L_q (Q_fa0 rfl) rfl rfl rfl ?_
    refine L_q (Q_ld 0 rfl rfl rfl rfl) rfl rfl rfl ?_
    refine L_q (Q_lenAt 1 rfl rfl) rfl rfl rfl ?_
    refine L_q ((Q_eql rfl rfl).as (v' := .bool false) (congrArg Value.bool (decide_eq_false (by omega)))) rfl rfl rfl ?_
    refine JL_nil ?_
    refine seqQ_normal ?_
    refine J_condF rfl ?_
    refine J_skip ?_
    refine seqQ_normal ?_
    refine J_seq ?_
    refine J_region ?_
    refine L_q (Q_fa0 rfl) rfl rfl rfl ?_
    refine L_q (Q_ld 0 rfl rfl rfl rfl) rfl rfl rfl ?_
    refine L_q (Q_fa0 rfl) rfl rfl rfl ?_
    refine L_q (Q_ld 0 rfl rfl rfl rfl) rfl rfl rfl ?_
    refine L_q (Q_lenAt 1 rfl rfl) rfl rfl rfl ?_
    refine L_q (Q_sub rfl rfl (by first | exact IntWalk.i64_in _ (by omega) | exact IntWalk.u8_in _ (by omega) | exact IntWalk.u32_in _ (by omega) | exact IntWalk.u64_in _ (by omega) | rfl)) rfl rfl rfl ?_
    refine L_q (Q_ixAt 1 a.length rfl rfl rfl (by omega) hlt rfl) rfl rfl rfl ?_
    refine L_q (Q_ldEAAt 1 a.length 0 (vs := [.int .i64 (r.1.first : Int), str (text r.1.l), .int .i64 (r.1.s : Int), r.2.v]) rfl rfl rfl rfl hlt (by decide) (by rw [hgl]; rfl)) rfl rfl rfl ?_
    refine L_o rfl rfl rfl (O_alloc fun b3 => ?_)
    refine L_s rfl rfl (O_stW 0 rfl rfl rfl rfl ?_)
    refine JL.norm ?_
    refine JL_nil ?_
    refine seqQ_normal ?_
    refine J_seq ?_
    refine J_region ?_
    refine L_q (Q_fa0 rfl) rfl rfl rfl ?_
    refine L_q (Q_ld 0 rfl rfl rfl rfl) rfl rfl rfl ?_
    refine L_q (Q_fa0 rfl) rfl rfl rfl ?_
    refine L_q (Q_ld 0 rfl rfl rfl rfl) rfl rfl rfl ?_
    refine L_q (Q_lenV (S := r.2) rfl) rfl rfl rfl ?_
    refine L_q ((Q_add rfl rfl (IntWalk.i64_in _ (by omega))).as (v' := .int .i64 (r.1.next : Int)) (by rw [h3, h1]; rfl)) rfl rfl rfl ?_
    refine L_q (Q_assign rfl) rfl rfl rfl ?_
    refine JL_nil ?_
    refine seqQ_normal ?_
    refine J_ret ?_
    exact retQ_ret _ [slc tF true X (a ++ [r])] (.cons (RV_tmp rfl) .nil) ⟨rfl, rfl⟩ (Ent.re [2, 3] rfl)
theorem rfirst35_ok (E : World) (size sure : Nat) (X : SV) (rs : List Fr) : Does Try.prog E 21 [refV size sure X] [slc tF true X rs] fun v L => v = .int .i64 (firstOf (rs.map (·.1)) : Int) ∧ L = [slc tF true X rs] := by
  refine Does.of Try.func21 rfl Try.ntmps21 rfl rfl fun F => ?_
  refine J.norm ?_
  refine J_seq ?_
  refine J_region ?_
  refine L_o rfl rfl rfl (O_box rfl fun b1 => ?_)
  refine L_q (Q_assign rfl) rfl rfl rfl ?_
  refine JL_nil ?_
  refine seqQ_normal ?_
  refine J_seq ?_
  refine J_seq ?_
  cases rs with
  | nil =>
    refine J_region ?_
    refine L_q (Q_fa0 rfl) rfl rfl rfl ?_
    refine L_q (Q_ld 0 rfl rfl rfl rfl) rfl rfl rfl ?_
    refine L_q (Q_lenAt 1 rfl rfl) rfl rfl rfl ?_
    refine L_q ((Q_eql rfl rfl).as (v' := .bool true) rfl) rfl rfl rfl ?_
    refine JL_nil ?_
    refine seqQ_normal ?_
    refine J_condT rfl ?_
    refine J_seq ?_
    refine J_region ?_
    refine L_q (Q_assign rfl) rfl rfl rfl ?_
    refine JL_nil ?_
    refine seqQ_normal ?_
    refine J_ret ?_
    refine seqQ_ret ?_
    exact retQ_ret _ [slc tF true X []] (.cons (RV_tmp rfl) .nil) ⟨rfl, rfl⟩ (Ent.re [1, 2] rfl)
  | cons r rs =>
    refine J_region ?_
    refine L_q (Q_fa0 rfl) rfl rfl rfl ?_
    refine L_q (Q_ld 0 rfl rfl rfl rfl) rfl rfl rfl ?_
    refine L_q (Q_lenAt 1 rfl rfl) rfl rfl rfl ?_
    refine L_q ((Q_eql rfl rfl).as (v' := .bool false) (congrArg Value.bool (decide_eq_false (by simp; omega)))) rfl rfl rfl ?_
    refine JL_nil ?_
    refine seqQ_normal ?_
    refine J_condF rfl ?_
    refine J_skip ?_
    refine seqQ_normal ?_
    refine J_seq ?_
    refine J_region ?_
    refine L_q (Q_fa0 rfl) rfl rfl rfl ?_
    refine L_q (Q_ld 0 rfl rfl rfl rfl) rfl rfl rfl ?_
    refine L_q (Q_ixAt 1 0 rfl rfl rfl rfl (by simp) rfl) rfl rfl rfl ?_
    refine L_q (Q_pfa rfl) rfl rfl rfl ?_
    refine L_q (Q_ldEAt 1 0 0 (v := .int .i64 (r.1.first : Int)) rfl rfl rfl rfl (by simp) (by decide) rfl) rfl rfl rfl ?_
    refine L_q (Q_assign rfl) rfl rfl rfl ?_
    refine JL_nil ?_
    refine seqQ_normal ?_
    refine J_ret ?_
    exact retQ_ret _ [slc tF true X (r :: rs)] (.cons (RV_tmp rfl) .nil) ⟨rfl, rfl⟩ (Ent.re [1, 2] rfl)
theorem rsync35_ok (E : World) (size sure : Nat) (X : SV) (rs : List Fr) (hl : rs.length ≤ 100) (hr : ∀ r ∈ rs, r.2.n = r.1.l.length ∧ r.1.next ≤ 10000000) (hok : ∀ r ∈ rs, (text r.1.l).length ≤ 8192 ∧ r.1.s ≤ (text r.1.l).length) :
    Does Try.prog E 15 [refV size sure X] [slc tF true X rs] fun v L => ∃ X' : SV, v = refV size (if rs = [] then sure else nextOf (rs.map (·.1))) X' ∧ L = [slc tF true X' (onR rs syncF)] := by
  have hnx := rnext35_ok E size sure X rs hl hr
  refine Does.of Try.func15 rfl Try.ntmps15 rfl rfl fun F => ?_
  refine J.norm ?_
  refine J_seq ?_
  refine J_region ?_
  refine L_o rfl rfl rfl (O_box rfl fun b1 => ?_)
  refine L_o rfl rfl rfl (O_alloc fun b2 => ?_)
  refine JL_nil ?_
  refine seqQ_normal ?_
  refine J_seq ?_
  refine J_seq ?_
  rcases last_cases rs with rfl | ⟨a, r, rfl⟩
  · rw [if_pos rfl, show onR [] syncF = [] from rfl]
    refine J_region ?_
    refine L_q (Q_fa0 rfl) rfl rfl rfl ?_
    refine L_q (Q_ld 1 rfl rfl rfl rfl) rfl rfl rfl ?_
    refine L_q (Q_lenAt 2 rfl rfl) rfl rfl rfl ?_
    refine L_q ((Q_eql rfl rfl).as (v' := .bool true) rfl) rfl rfl rfl ?_
    refine JL_nil ?_
    refine seqQ_normal ?_
    refine J_condT rfl ?_
    refine J_seq ?_
    refine J_region ?_
    refine L_q (Q_ldA 1 rfl rfl rfl) rfl rfl rfl ?_
    refine L_s rfl rfl (O_stW 0 rfl rfl rfl rfl ?_)
    refine JL.norm ?_
    refine JL_nil ?_
    refine seqQ_normal ?_
    refine J_ret ?_
    refine seqQ_ret ?_
    exact retQ_ret _ [slc tF true X []] (.cons (RV_cell 0 rfl rfl rfl rfl) .nil) ⟨X, rfl, rfl⟩ (Ent.re [2, 3] rfl)
  · have hlen : (a ++ [r]).length = a.length + 1 := by simp
    have hlt : a.length < (a ++ [r]).length := by omega
    have hgl := snoc_get a r hlt
    obtain ⟨k1, k2⟩ := hok r (by simp)
    rw [if_neg (by simp), onR_snoc]
    have hdo := rdo_ok E r.1.d ⟨2, [], 0⟩ (by decide) ⟨k2, Nat.le_trans k1 (by decide)⟩ (by simp)
    have hd1 : (doD r.1.d ⟨2, [], 0⟩).2 = 0 := rfl
    have hd2 : (doD r.1.d ⟨2, [], 0⟩).1 = (syncF r.1).d := rfl
    rw [hd1, hd2] at hdo
    refine J_region ?_
    refine L_q (Q_fa0 rfl) rfl rfl rfl ?_
    refine L_q (Q_ld 1 rfl rfl rfl rfl) rfl rfl rfl ?_
    refine L_q (Q_lenAt 2 rfl rfl) rfl rfl rfl ?_
    refine L_q ((Q_eql rfl rfl).as (v' := .bool false) (congrArg Value.bool (decide_eq_false (by omega)))) rfl rfl rfl ?_
    refine JL_nil ?_
    refine seqQ_normal ?_
    refine J_condF rfl ?_
    refine J_skip ?_
    refine seqQ_normal ?_
    refine J_seq ?_
    refine J_region ?_
    refine L_q (Q_fa0 rfl) rfl rfl rfl ?_
    refine L_q (Q_ld 1 rfl rfl rfl rfl) rfl rfl rfl ?_
    refine L_q (Q_fa0 rfl) rfl rfl rfl ?_
    refine L_q (Q_ld 1 rfl rfl rfl rfl) rfl rfl rfl ?_
    refine L_q (Q_lenAt 2 rfl rfl) rfl rfl rfl ?_
    refine L_q (Q_sub rfl rfl (by first | exact IntWalk.i64_in _ (by omega) | exact IntWalk.u8_in _ (by omega) | exact IntWalk.u32_in _ (by omega) | exact IntWalk.u64_in _ (by omega) | rfl)) rfl rfl rfl ?_
    refine L_q (Q_ixAt 2 a.length rfl rfl rfl (by omega) hlt rfl) rfl rfl rfl ?_
    refine L_q (Q_ldEAAt 2 a.length 0 (vs := [.int .i64 (r.1.first : Int), str (text r.1.l), .int .i64 (r.1.s : Int), r.2.v]) rfl rfl rfl rfl hlt (by decide) (by rw [hgl]; rfl)) rfl rfl rfl ?_
    refine L_o rfl rfl rfl (O_alloc fun b3 => ?_)
    refine L_s rfl rfl (O_stW 0 rfl rfl rfl rfl ?_)
    refine JL.norm ?_
    refine JL_nil ?_
    refine seqQ_normal ?_
    refine J_seq ?_
    refine J_region ?_
    refine L_q (Q_fa0 rfl) rfl rfl rfl ?_
    refine L_q (Q_ldA 0 rfl rfl rfl) rfl rfl rfl ?_
    refine L_q (Q_build rfl) rfl rfl rfl ?_
    refine L_o rfl rfl rfl (O_call [] [0,1,2,3,4] hdo rfl rfl ?_)
    rintro _ _ ⟨rfl, rfl⟩
    refine JL.norm ?_
    refine L_q (Q_move rfl) rfl rfl rfl ?_
    refine L_q (Q_extract (v := dkV (syncF r.1).d) rfl rfl) rfl rfl rfl ?_
    refine L_q (Q_extract (v := .int .i64 0) rfl rfl) rfl rfl rfl ?_
    refine L_o rfl rfl rfl (O_alloc fun b4 => ?_)
    refine L_s rfl rfl (O_stW 0 rfl rfl rfl rfl ?_)
    refine JL.norm ?_
    refine L_q (Q_assign rfl) rfl rfl rfl ?_
    refine JL_nil ?_
    refine seqQ_normal ?_
    refine J_seq ?_
    refine J_region ?_
    refine L_q (Q_ldA 0 rfl rfl rfl) rfl rfl rfl ?_
    refine L_q (Q_fa0 rfl) rfl rfl rfl ?_
    refine L_s rfl rfl (O_st (sz := 2) (cs' := [.int .i64 (r.1.first : Int), str (text r.1.l), .int .i64 ((text r.1.l).length : Int), r.2.v]) 1 rfl rfl rfl rfl rfl (by simp [Value.oneCell', Value.cells]) (by simp) rfl ?_)
    refine JL.norm ?_
    refine JL_nil ?_
    refine seqQ_normal ?_
    refine J_seq ?_
    refine J_region ?_
    refine L_q (Q_ldA 3 rfl rfl rfl) rfl rfl rfl ?_
    refine L_o rfl rfl rfl (O_call [4] [0,1,2,3,5] hnx rfl rfl ?_)
    rintro _ _ ⟨rfl, rfl⟩
    refine JL.norm ?_
    refine L_q (Q_fa0 rfl) rfl rfl rfl ?_
    refine L_s rfl rfl (O_st1 4 rfl rfl rfl rfl rfl ?_)
    refine JL.norm ?_
    refine JL_nil ?_
    refine seqQ_normal ?_
    refine J_seq ?_
    refine J_region ?_
    refine L_q (Q_ldA 4 rfl rfl rfl) rfl rfl rfl ?_
    refine L_q (Q_ldA 2 rfl rfl rfl) rfl rfl rfl ?_
    refine L_o rfl rfl rfl (O_call [0] [1,2,3,4,5] (rlast_ok E size (nextOf ((a ++ [r]).map (·.1))) X a r (syncF r.1, r.2) (by omega)) rfl rfl ?_)
    rintro _ _ ⟨X', rfl, rfl⟩
    refine JL.norm ?_
    refine L_s rfl rfl (O_stW 3 rfl rfl rfl rfl ?_)
    refine JL.norm ?_
    refine JL_nil ?_
    refine seqQ_normal ?_
    refine J_ret ?_
    exact retQ_ret _ [slc tF true X' (a ++ [(syncF r.1, r.2)])] (.cons (RV_cell 3 rfl rfl rfl rfl) .nil) ⟨X', rfl, rfl⟩ (Ent.re [0, 5] rfl)
end Go.Proofs
