/- The document's log in files: new, a drop, a record, a crash. -/
import Derived.Test.YtogjhcelmbhooaaRef35b
set_option autoImplicit false
namespace Go.Proofs
open Go.SL
attribute [local irreducible] J JL QOp JOp seqQ blockQ loopQ retQ slc cel hex star pur stars Does RV Ent pAt scopeQ
theorem rnew35_ok (E : World) (z : Int) : Does Try.prog E 11 [.int .i64 z] [] fun v L => v = refV (newSize z) 0 SV.nil ∧ L = [] := by
  refine Does.of Try.func11 rfl Try.ntmps11 rfl rfl fun F => ?_
  refine J.norm ?_
  refine J_seq ?_
  refine J_region ?_
  refine L_o rfl rfl rfl (O_alloc fun b2 => ?_)
  refine JL_nil ?_
  refine seqQ_normal ?_
  refine J_seq ?_
  refine J_region ?_
  refine L_q (Q_move rfl) rfl rfl rfl ?_
  refine L_q (Q_max2 rfl rfl) rfl rfl rfl ?_
  refine L_q ((Q_min2 rfl rfl).as (congrArg (Value.int .i64) (newSize_eq z))) rfl rfl rfl ?_
  refine L_q (Q_build rfl) rfl rfl rfl ?_
  refine L_s rfl rfl (O_stW 0 rfl rfl rfl rfl ?_)
  refine JL.norm ?_
  refine JL_nil ?_
  refine seqQ_normal ?_
  refine J_ret ?_
  exact retQ_ret _ [] (.cons (RV_cell 0 rfl rfl rfl rfl) .nil) ⟨rfl, rfl⟩ (Ent.re [1] rfl)
theorem rdrop35_ok (E : World) (size sure : Nat) (X : SV) (rs : List Fr) (seq : Int) (hl : rs.length ≤ 16) (hc : chain (rs.map (·.1))) :
    Does Try.prog E 16 [refV size sure X, .int .i64 seq] [slc tF true X rs, rowsC rs] fun v L => ∃ X' : SV, v = .tuple #[refV size sure X', .int .i64 (dropN (rs.map (·.1)) seq : Int)] ∧ L = [slc tF true X' (rs.drop (dropN (rs.map (·.1)) seq)), rowsC (rs.drop (dropN (rs.map (·.1)) seq))] := by
  refine Does.of Try.func16 rfl Try.ntmps16 rfl rfl fun F => ?_
  refine J.norm ?_
  refine J_seq ?_
  refine J_region ?_
  refine L_o rfl rfl rfl (O_box rfl fun b2 => ?_)
  refine L_o rfl rfl rfl (O_alloc fun b4 => ?_)
  refine L_q (Q_assign rfl) rfl rfl rfl ?_
  refine JL_nil ?_
  refine seqQ_normal ?_
  refine J_seq ?_
  refine J_region ?_
  refine L_q (Q_assign rfl) rfl rfl rfl ?_
  refine JL_nil ?_
  refine seqQ_normal ?_
  refine J_seq ?_
  refine J_block ?_
  refine J_loop (fun i : Nat × SV => i.1 ≤ rs.length ∧ dropN (rs.map (·.1)) seq = i.1 + dropN ((rs.drop i.1).map (·.1)) seq)
    (fun i => [(1, .int .i64 seq), (2, .pointer (some ⟨b2, 0, none⟩)), (4, .pointer (some ⟨b4, 0, none⟩)), (6, .int .i64 (i.1 : Int))])
    (fun i => [cel b4 [.int .i64 0, .int .i64 0, .slice none 0 0] 29, cel b2 [.int .i64 (size : Int), .int .i64 (sure : Int), i.2.v] 29, slc tF true i.2 (rs.drop i.1), rowsC rs, F]) (fun i => rs.length - i.1) (0, X) ⟨by simp, by simp⟩ ⟨rfl, rfl, rfl, rfl, trivial⟩ (Ent.refl _) ?_
  rintro ⟨k, Y⟩ ⟨hk, hg⟩
  dsimp only at hk hg ⊢
  have hcd : chain ((rs.drop k).map (·.1)) := by rw [List.map_drop]; exact chain_drop _ _ hc
  have hsp : ∀ m L, Ent (rowsC rs :: L) (rowsC (rs.drop m) :: L) := fun m L => by
    have e : rs.map recAt = (rs.take m).map recAt ++ (rs.drop m).map recAt := by rw [← List.map_append, List.take_append_drop]
    unfold rowsC
    rw [e]
    exact Ent.stars_drop
  match hd : rs.drop k with
  | [] =>
    rw [hd] at hg
    have hg2 : dropN (rs.map (·.1)) seq = k := by rw [hg]; rfl
    refine J_seq ?_
    refine J_seq ?_
    refine J_region ?_
    refine L_q (Q_fa0 rfl) rfl rfl rfl ?_
    refine L_q (Q_ld 1 rfl rfl rfl rfl) rfl rfl rfl ?_
    refine L_q (Q_lenAt 2 rfl rfl) rfl rfl rfl ?_
    refine L_q ((Q_gtr rfl rfl).as (v' := .bool false) rfl) rfl rfl rfl ?_
    refine L_q (Q_move rfl) rfl rfl rfl ?_
    refine L_n rfl rfl rfl ?_
    refine L_n rfl rfl rfl ?_
    refine L_n rfl rfl rfl ?_
    refine L_n rfl rfl rfl ?_
    refine L_n rfl rfl rfl ?_
    refine L_n rfl rfl rfl ?_
    refine L_n rfl rfl rfl ?_
    refine L_q (Q_pickF rfl rfl) rfl rfl rfl ?_
    refine JL_nil ?_
    refine seqQ_normal ?_
    refine J_condF rfl ?_
    refine J_exit ?_
    refine seqQ_exit ?_
    refine loopQ_exit ?_
    refine blockQ_hit ?_
    refine seqQ_normal ?_
    refine J_seq ?_
    refine J_region ?_
    refine L_q (Q_ldA 1 rfl rfl rfl) rfl rfl rfl ?_
    refine L_q (Q_move rfl) rfl rfl rfl ?_
    refine L_s rfl rfl (O_stW 0 rfl rfl rfl rfl ?_)
    refine JL.norm ?_
    refine L_q (Q_assign rfl) rfl rfl rfl ?_
    refine JL_nil ?_
    refine seqQ_normal ?_
    refine J_ret ?_
    refine retQ_ret _ [slc tF true Y (rs.drop (dropN (rs.map (·.1)) seq)), rowsC (rs.drop (dropN (rs.map (·.1)) seq))] (.cons (RV_cell 0 rfl rfl rfl rfl) (.cons (RV_tmp rfl) .nil)) ⟨Y, by rw [hg2]; rfl, rfl⟩ ?_
    have hs := hsp k [slc tF true Y (rs.drop k), F]
    rw [hg2]
    rw [hd] at hs ⊢
    exact ((Ent.re [3, 2, 4] rfl).trans hs).trans (Ent.re [1, 0, 2] rfl)
  | [r] =>
    rw [hd] at hg
    have hg2 : dropN (rs.map (·.1)) seq = k := by rw [hg]; rfl
    refine J_seq ?_
    refine J_seq ?_
    refine J_region ?_
    refine L_q (Q_fa0 rfl) rfl rfl rfl ?_
    refine L_q (Q_ld 1 rfl rfl rfl rfl) rfl rfl rfl ?_
    refine L_q (Q_lenAt 2 rfl rfl) rfl rfl rfl ?_
    refine L_q ((Q_gtr rfl rfl).as (v' := .bool false) rfl) rfl rfl rfl ?_
    refine L_q (Q_move rfl) rfl rfl rfl ?_
    refine L_n rfl rfl rfl ?_
    refine L_n rfl rfl rfl ?_
    refine L_n rfl rfl rfl ?_
    refine L_n rfl rfl rfl ?_
    refine L_n rfl rfl rfl ?_
    refine L_n rfl rfl rfl ?_
    refine L_n rfl rfl rfl ?_
    refine L_q (Q_pickF rfl rfl) rfl rfl rfl ?_
    refine JL_nil ?_
    refine seqQ_normal ?_
    refine J_condF rfl ?_
    refine J_exit ?_
    refine seqQ_exit ?_
    refine loopQ_exit ?_
    refine blockQ_hit ?_
    refine seqQ_normal ?_
    refine J_seq ?_
    refine J_region ?_
    refine L_q (Q_ldA 1 rfl rfl rfl) rfl rfl rfl ?_
    refine L_q (Q_move rfl) rfl rfl rfl ?_
    refine L_s rfl rfl (O_stW 0 rfl rfl rfl rfl ?_)
    refine JL.norm ?_
    refine L_q (Q_assign rfl) rfl rfl rfl ?_
    refine JL_nil ?_
    refine seqQ_normal ?_
    refine J_ret ?_
    refine retQ_ret _ [slc tF true Y (rs.drop (dropN (rs.map (·.1)) seq)), rowsC (rs.drop (dropN (rs.map (·.1)) seq))] (.cons (RV_cell 0 rfl rfl rfl rfl) (.cons (RV_tmp rfl) .nil)) ⟨Y, by rw [hg2]; rfl, rfl⟩ ?_
    have hs := hsp k [slc tF true Y (rs.drop k), F]
    rw [hg2]
    rw [hd] at hs ⊢
    exact ((Ent.re [3, 2, 4] rfl).trans hs).trans (Ent.re [1, 0, 2] rfl)
  | r :: r2 :: b =>
    have hlb : (rs.drop k).length = b.length + 2 := by rw [hd]; rfl
    have hk2 : k + b.length + 2 = rs.length := by rw [List.length_drop] at hlb; omega
    have hd2 : rs.drop (k + 1) = r2 :: b := by rw [← List.drop_drop, hd]; rfl
    rw [hd] at hg hcd
    have hch : r2.1.first = r.1.next := hcd.1
    have hln : (r :: r2 :: b).length = b.length + 2 := rfl
    refine J_seq ?_
    refine J_seq ?_
    refine J_region ?_
    refine L_q (Q_fa0 rfl) rfl rfl rfl ?_
    refine L_q (Q_ld 1 rfl rfl rfl rfl) rfl rfl rfl ?_
    refine L_q (Q_lenAt 2 rfl rfl) rfl rfl rfl ?_
    refine L_q ((Q_gtr rfl rfl).as (v' := .bool true) (congrArg Value.bool (decide_eq_true (by omega)))) rfl rfl rfl ?_
    refine L_q (Q_move rfl) rfl rfl rfl ?_
    refine L_q (Q_fa0 rfl) rfl rfl rfl ?_
    refine L_q (Q_ld 1 rfl rfl rfl rfl) rfl rfl rfl ?_
    refine L_q (Q_ixAt 2 1 rfl rfl rfl rfl (by omega) rfl) rfl rfl rfl ?_
    refine L_q (Q_pfa rfl) rfl rfl rfl ?_
    refine L_q (Q_ldEAt 2 1 0 (v := .int .i64 (r2.1.first : Int)) rfl rfl rfl rfl (by omega) (by decide) rfl) rfl rfl rfl ?_
    refine L_q (Q_move rfl) rfl rfl rfl ?_
    refine L_q (Q_leq rfl rfl) rfl rfl rfl ?_
    refine L_q (Q_pickT rfl rfl) rfl rfl rfl ?_
    refine JL_nil ?_
    refine seqQ_normal ?_
    refine J_condD rfl (fun h => ?_) (fun h => ?_)
    · refine J.ent (Ent.mk fun _ _ h => (h.lay_nil tF true : Sat _ _ (slc tF true SV.nil [] :: _))) ?_
      have hrd : ∀ w, Sat E w [slc tF true SV.nil [], cel b4 [.int .i64 0, .int .i64 0, .slice none 0 0] 29, cel b2 [.int .i64 (size : Int), .int .i64 (sure : Int), Y.v] 29, slc tF true Y (r :: r2 :: b), rowsC rs, F] → Rd tF w (Y.sub tF.sz 1 (r :: r2 :: b).length) (((r :: r2 :: b).take (r :: r2 :: b).length).drop 1) := fun w h => (h.rd 3 rfl).sub 1 _ (by omega) (Nat.le_refl _)
      rw [List.take_length, List.drop_succ_cons, List.drop_zero] at hrd
      refine J_skip ?_
      refine seqQ_normal ?_
      refine J_block ?_
      refine J_seq ?_
      refine J_region ?_
      refine L_q (Q_fa0 rfl) rfl rfl rfl ?_
      refine L_q (Q_ld 2 rfl rfl rfl rfl) rfl rfl rfl ?_
      refine L_q (Q_slL (τ := tF) 1 (fun w h => h.rd 3 rfl) rfl rfl rfl (by omega) rfl) rfl rfl rfl ?_
      refine L_o rfl rfl rfl (O_app (τ := tF) 0 rfl hrd rfl rfl rfl rfl (by simp only [List.length_nil, List.length_cons]; omega) (by decide) (fun Z => ?_))
      refine JL.norm ?_
      refine L_q (Q_fa0 rfl) rfl rfl rfl ?_
      refine L_s rfl rfl (O_st1 2 rfl rfl rfl rfl rfl ?_)
      refine JL.norm ?_
      refine JL_nil ?_
      refine seqQ_normal ?_
      rw [List.nil_append]
      refine J_region ?_
      refine L_q (Q_move rfl) rfl rfl rfl ?_
      refine L_q (Q_add rfl rfl (by first | exact IntWalk.i64_in _ (by omega) | exact IntWalk.u8_in _ (by omega) | exact IntWalk.u32_in _ (by omega) | exact IntWalk.u64_in _ (by omega) | rfl)) rfl rfl rfl ?_
      refine L_q (Q_assign rfl) rfl rfl rfl ?_
      refine JL_nil ?_
      refine blockQ_normal ?_
      refine loopQ_normal (k + 1, Z) ⟨by omega, ?_⟩ (by simp only; omega) ⟨rfl, rfl, rfl, rfl, trivial⟩ ?_
      · rw [hg]
        simp only [hd2, List.map_cons, dropN]
        rw [if_pos (by omega)]; omega
      · simp only
        rw [hd2]
        exact Ent.re [1, 2, 0, 4, 5] rfl
    · have hg2 : dropN (rs.map (·.1)) seq = k := by
        rw [hg]; simp only [List.map_cons, dropN]; rw [if_neg (by omega)]; rfl
      refine J_exit ?_
      refine seqQ_exit ?_
      refine loopQ_exit ?_
      refine blockQ_hit ?_
      refine seqQ_normal ?_
      refine J_seq ?_
      refine J_region ?_
      refine L_q (Q_ldA 1 rfl rfl rfl) rfl rfl rfl ?_
      refine L_q (Q_move rfl) rfl rfl rfl ?_
      refine L_s rfl rfl (O_stW 0 rfl rfl rfl rfl ?_)
      refine JL.norm ?_
      refine L_q (Q_assign rfl) rfl rfl rfl ?_
      refine JL_nil ?_
      refine seqQ_normal ?_
      refine J_ret ?_
      refine retQ_ret _ [slc tF true Y (rs.drop (dropN (rs.map (·.1)) seq)), rowsC (rs.drop (dropN (rs.map (·.1)) seq))] (.cons (RV_cell 0 rfl rfl rfl rfl) (.cons (RV_tmp rfl) .nil)) ⟨Y, by rw [hg2]; rfl, rfl⟩ ?_
      have hs := hsp k [slc tF true Y (rs.drop k), F]
      rw [hg2]
      rw [hd] at hs ⊢
      exact ((Ent.re [3, 2, 4] rfl).trans hs).trans (Ent.re [1, 0, 2] rfl)
def getV35 (fs : List Fl) (i : Int) : Value := .tuple #[str (getL fs i).1, .int .i64 (getL fs i).2]
theorem rget35_ok (E : World) (size sure : Nat) (X : SV) (rs : List Fr) (i : Int) (hl : rs.length ≤ 16) (hr : ∀ r ∈ rs, r.2.n = r.1.l.length ∧ r.1.next ≤ 10000000) (hi : i ≤ 9000000000000000000) :
    Does Try.prog E 27 [refV size sure X, .int .i64 i] [slc tF true X rs, rowsC rs] fun v L => v = getV35 (rs.map (·.1)) i ∧ L = [slc tF true X rs, rowsC rs] := by
  refine Does.of Try.func27 rfl Try.ntmps27 rfl rfl fun F => ?_
  refine J.norm ?_
  refine J_seq ?_
  refine J_region ?_
  refine L_o rfl rfl rfl (O_box rfl fun b2 => ?_)
  refine L_q (Q_assign rfl) rfl rfl rfl ?_
  refine L_q (Q_assign rfl) rfl rfl rfl ?_
  refine JL_nil ?_
  refine seqQ_normal ?_
  refine J_seq ?_
  refine J_seq ?_
  refine J_region ?_
  refine L_q (Q_assign rfl) rfl rfl rfl ?_
  refine JL_nil ?_
  refine seqQ_normal ?_
  refine J_block ?_
  refine J_loop (fun k : Nat => k ≤ rs.length ∧ getL (rs.map (·.1)) i = getL ((rs.drop k).map (·.1)) i)
    (fun k => [(1, .int .i64 i), (2, .pointer (some ⟨b2, 0, none⟩)), (6, .int .i64 (k : Int))])
    (fun _ => [cel b2 [.int .i64 (size : Int), .int .i64 (sure : Int), X.v] 29, slc tF true X rs, rowsC rs, F]) (fun k => rs.length - k) 0 ⟨by simp, by simp⟩ ⟨rfl, rfl, rfl, trivial⟩ (Ent.refl _) ?_
  rintro k ⟨hk, hg⟩
  refine J_seq ?_
  refine J_seq ?_
  refine J_region ?_
  refine L_q (Q_move rfl) rfl rfl rfl ?_
  refine L_q (Q_fa0 rfl) rfl rfl rfl ?_
  refine L_q (Q_ld 0 rfl rfl rfl rfl) rfl rfl rfl ?_
  refine L_q (Q_lenAt 1 rfl rfl) rfl rfl rfl ?_
  refine L_q (Q_lss rfl rfl) rfl rfl rfl ?_
  refine JL_nil ?_
  refine seqQ_normal ?_
  refine J_condD rfl (fun h => ?_) (fun h => ?_)
  · have hlt : k < rs.length := by omega
    obtain ⟨a, ⟨f, q⟩, b, rfl, rfl⟩ := split_at rs k hlt
    have hgm := get_mid a (f, q) b hlt
    obtain ⟨o1, o3⟩ := hr (f, q) (by simp)
    have o1' : q.n = f.l.length := o1
    have o3' : f.next ≤ 10000000 := o3
    have hfn : f.next = f.first + f.l.length := rfl
    rw [List.drop_left] at hg
    have hg' : getL ((a ++ (f, q) :: b).map (·.1)) i = if (f.first : Int) ≤ i ∧ i < (f.next : Int) then (f.l.getD (i - f.first).toNat [], 0) else getL (b.map (·.1)) i := hg
    refine J_skip ?_
    refine seqQ_normal ?_
    refine J_seq ?_
    refine J_block ?_
    refine J_seq ?_
    refine J_region ?_
    refine L_q (Q_fa0 rfl) rfl rfl rfl ?_
    refine L_q (Q_ld 0 rfl rfl rfl rfl) rfl rfl rfl ?_
    refine L_q (Q_move rfl) rfl rfl rfl ?_
    refine L_q (Q_ixAt 1 a.length rfl rfl rfl rfl hlt rfl) rfl rfl rfl ?_
    refine L_q (Q_ldEAAt 1 a.length 0 (vs := [.int .i64 (f.first : Int), str (text f.l), .int .i64 (f.s : Int), q.v]) rfl rfl rfl rfl hlt (by decide) (by rw [hgm]; rfl)) rfl rfl rfl ?_
    refine L_o rfl rfl rfl (O_alloc fun b7 => ?_)
    refine L_s rfl rfl (O_stW 0 rfl rfl rfl rfl ?_)
    refine JL.norm ?_
    refine JL_nil ?_
    refine seqQ_normal ?_
    refine J_seq ?_
    by_cases c1 : (f.first : Int) ≤ i
    · skip
      refine J_region ?_
      refine L_q (Q_move rfl) rfl rfl rfl ?_
      refine L_q (Q_fa0 rfl) rfl rfl rfl ?_
      refine L_q (Q_ld 0 rfl rfl rfl rfl) rfl rfl rfl ?_
      refine L_q ((Q_geq rfl rfl).as (v' := .bool true) (congrArg Value.bool (decide_eq_true c1))) rfl rfl rfl ?_
      refine L_q (Q_move rfl) rfl rfl rfl ?_
      refine L_q (Q_move rfl) rfl rfl rfl ?_
      refine L_q (Q_fa0 rfl) rfl rfl rfl ?_
      refine L_q (Q_ld 0 rfl rfl rfl rfl) rfl rfl rfl ?_
      refine L_q (Q_sub rfl rfl (IntWalk.i64_in _ (by omega))) rfl rfl rfl ?_
      refine L_q (Q_fa0 rfl) rfl rfl rfl ?_
      refine L_q (Q_ld 0 rfl rfl rfl rfl) rfl rfl rfl ?_
      refine L_q (Q_lenV (S := q) rfl) rfl rfl rfl ?_
      refine L_q (Q_lss rfl rfl) rfl rfl rfl ?_
      refine L_q (Q_pickT rfl rfl) rfl rfl rfl ?_
      refine JL_nil ?_
      refine seqQ_normal ?_
      refine J_condD rfl (fun c2 => ?_) (fun c2 => ?_)
      · obtain ⟨j, hj⟩ : ∃ j : Nat, i = ((f.first + j : Nat) : Int) := ⟨(i - f.first).toNat, by omega⟩
        have hjl : j < f.l.length := by omega
        have e : getV35 ((a ++ (f, q) :: b).map (·.1)) i = .tuple #[str f.l[j], .int .i64 0] := by
          unfold getV35
          rw [hg', if_pos (by omega), show (i - (f.first : Int)).toNat = j by omega]
          simp [List.getD_eq_getElem?_getD, List.getElem?_eq_getElem hjl]
        rw [e]
        refine J.ent ((Ent.re [3, 0, 1, 2, 4] rfl).trans (Ent.mid_out recAt a (f, q) b)) ?_
        refine J_seq ?_
        refine J_region ?_
        refine L_q (Q_fa0 rfl) rfl rfl rfl ?_
        refine L_q (Q_ld 2 rfl rfl rfl rfl) rfl rfl rfl ?_
        refine L_q (Q_move rfl) rfl rfl rfl ?_
        refine L_q (Q_fa0 rfl) rfl rfl rfl ?_
        refine L_q (Q_ld 2 rfl rfl rfl rfl) rfl rfl rfl ?_
        refine L_q ((Q_sub (r := (j : Int)) rfl rfl (by rw [show i - (f.first : Int) = (j : Int) by omega]; exact IntWalk.i64_in _ (by omega)))) rfl rfl rfl ?_
        refine L_q (Q_ixAt 0 j rfl rfl rfl rfl hjl rfl) rfl rfl rfl ?_
        refine L_q (Q_ldEAt 0 j 0 (v := str f.l[j]) rfl rfl rfl rfl hjl (by decide) rfl) rfl rfl rfl ?_
        refine L_q (Q_assign rfl) rfl rfl rfl ?_
        refine L_q (Q_assign rfl) rfl rfl rfl ?_
        refine JL_nil ?_
        refine seqQ_normal ?_
        refine J_ret ?_
        refine blockQ_ret ?_
        refine seqQ_ret ?_
        refine loopQ_ret ?_
        refine blockQ_ret ?_
        refine seqQ_ret ?_
        exact retQ_ret _ [slc tF true X (a ++ (f, q) :: b), rowsC (a ++ (f, q) :: b)] (.cons (RV_tmp rfl) (.cons (RV_tmp rfl) .nil)) ⟨rfl, rfl⟩ ((Ent.mid_in recAt a (f, q) b).trans (Ent.re [3, 0, 4] rfl))
      · rw [if_neg (by omega)] at hg'
        refine J_skip ?_
        refine blockQ_normal ?_
        refine seqQ_normal ?_
        refine J_region ?_
        refine L_q (Q_move rfl) rfl rfl rfl ?_
        refine L_q (Q_add rfl rfl (by first | exact IntWalk.i64_in _ (by omega) | exact IntWalk.u8_in _ (by omega) | exact IntWalk.u32_in _ (by omega) | exact IntWalk.u64_in _ (by omega) | rfl)) rfl rfl rfl ?_
        refine L_q (Q_assign rfl) rfl rfl rfl ?_
        refine JL_nil ?_
        refine loopQ_normal (a.length + 1) ⟨by omega, ?_⟩ (by omega) ⟨rfl, rfl, rfl, trivial⟩ (Ent.re [1, 2, 3, 4] rfl)
        rw [hg']; simp
    · rw [if_neg (by omega)] at hg'
      refine J_region ?_
      refine L_q (Q_move rfl) rfl rfl rfl ?_
      refine L_q (Q_fa0 rfl) rfl rfl rfl ?_
      refine L_q (Q_ld 0 rfl rfl rfl rfl) rfl rfl rfl ?_
      refine L_q ((Q_geq rfl rfl).as (v' := .bool false) (congrArg Value.bool (decide_eq_false c1))) rfl rfl rfl ?_
      refine L_q (Q_move rfl) rfl rfl rfl ?_
      refine L_n rfl rfl rfl ?_
      refine L_n rfl rfl rfl ?_
      refine L_n rfl rfl rfl ?_
      refine L_n rfl rfl rfl ?_
      refine L_n rfl rfl rfl ?_
      refine L_n rfl rfl rfl ?_
      refine L_n rfl rfl rfl ?_
      refine L_n rfl rfl rfl ?_
      refine L_q (Q_pickF rfl rfl) rfl rfl rfl ?_
      refine JL_nil ?_
      refine seqQ_normal ?_
      refine J_condF rfl ?_
      refine J_skip ?_
      refine blockQ_normal ?_
      refine seqQ_normal ?_
      refine J_region ?_
      refine L_q (Q_move rfl) rfl rfl rfl ?_
      refine L_q (Q_add rfl rfl (by first | exact IntWalk.i64_in _ (by omega) | exact IntWalk.u8_in _ (by omega) | exact IntWalk.u32_in _ (by omega) | exact IntWalk.u64_in _ (by omega) | rfl)) rfl rfl rfl ?_
      refine L_q (Q_assign rfl) rfl rfl rfl ?_
      refine JL_nil ?_
      refine loopQ_normal (a.length + 1) ⟨by omega, ?_⟩ (by omega) ⟨rfl, rfl, rfl, trivial⟩ (Ent.re [1, 2, 3, 4] rfl)
      rw [hg']; simp
  · obtain rfl : k = rs.length := by omega
    rw [List.drop_length] at hg
    have e : getV35 (rs.map (·.1)) i = .tuple #[str [], .int .i64 9] := by unfold getV35; rw [hg]; rfl
    rw [e]
    refine J_exit ?_
    refine seqQ_exit ?_
    refine loopQ_exit ?_
    refine blockQ_hit ?_
    refine seqQ_normal ?_
    refine J_seq ?_
    refine J_region ?_
    refine L_q (Q_assign rfl) rfl rfl rfl ?_
    refine L_q (Q_assign rfl) rfl rfl rfl ?_
    refine JL_nil ?_
    refine seqQ_normal ?_
    refine J_ret ?_
    exact retQ_ret _ [slc tF true X rs, rowsC rs] (.cons (RV_tmp rfl) (.cons (RV_tmp rfl) .nil)) ⟨rfl, rfl⟩ (Ent.re [1, 2, 3] rfl)
theorem rcrash35_ok (E : World) (size sure keep : Nat) (X : SV) (rs : List Fr) (hkp : keep < 2 ^ 64) (hl : rs.length ≤ 16) (hr : ∀ r ∈ rs, r.2.n = r.1.l.length ∧ r.1.next ≤ 1000000) (hok : ∀ r ∈ rs, (text r.1.l).length ≤ 8192 ∧ r.1.s ≤ (text r.1.l).length) :
    Does Try.prog E 19 [refV size sure X, .int .u64 (keep : Int)] [slc tF true X rs, rowsC rs] fun v L => ∃ (X' : SV) (rs' : List Fr), v = refV size (if rs = [] then sure else nextOf (onLast (rs.map (·.1)) fun f => crashF f keep)) X' ∧
      rs'.map (·.1) = onLast (rs.map (·.1)) (fun f => crashF f keep) ∧ (∀ r ∈ rs', r.2.n = r.1.l.length) ∧ L = [slc tF true X' rs', rowsC rs'] := by
  refine Does.of Try.func19 rfl Try.ntmps19 rfl rfl fun F => ?_
  refine J.norm ?_
  refine J_seq ?_
  refine J_region ?_
  refine L_o rfl rfl rfl (O_box rfl fun b2 => ?_)
  refine L_o rfl rfl rfl (O_alloc fun b4 => ?_)
  refine JL_nil ?_
  refine seqQ_normal ?_
  refine J_seq ?_
  refine J_seq ?_
  rcases last_cases rs with rfl | ⟨a, ⟨f, q⟩, rfl⟩
  · rw [if_pos rfl]
    refine J_region ?_
    refine L_q (Q_fa0 rfl) rfl rfl rfl ?_
    refine L_q (Q_ld 1 rfl rfl rfl rfl) rfl rfl rfl ?_
    refine L_q (Q_lenAt 2 rfl rfl) rfl rfl rfl ?_
    refine L_q ((Q_eql rfl rfl).as (v' := .bool true) rfl) rfl rfl rfl ?_
    refine JL_nil ?_
    refine seqQ_normal ?_
    refine J_condT rfl ?_
    refine J_seq ?_
    refine J_region ?_
    refine L_q (Q_ldA 1 rfl rfl rfl) rfl rfl rfl ?_
    refine L_s rfl rfl (O_stW 0 rfl rfl rfl rfl ?_)
    refine JL.norm ?_
    refine JL_nil ?_
    refine seqQ_normal ?_
    refine J_ret ?_
    refine seqQ_ret ?_
    exact retQ_ret _ [slc tF true X [], rowsC []] (.cons (RV_cell 0 rfl rfl rfl rfl) .nil) ⟨X, [], rfl, rfl, by simp, rfl⟩ (Ent.re [2, 3, 4] rfl)
  · have hlen : (a ++ [(f, q)]).length = a.length + 1 := by simp
    have hlt : a.length < (a ++ [(f, q)]).length := by omega
    have hgl := snoc_get a (f, q) hlt
    obtain ⟨k1, k2⟩ := hok (f, q) (by simp)
    obtain ⟨t1, t2⟩ := tear_length f.d keep k2
    have t3 : (tear f.d keep).length ≤ 8192 := Nat.le_trans t2 k1
    rw [if_neg (by simp), List.map_append, List.map_cons, List.map_nil, onLast_snoc, nextOf_snoc]
    have hdo := rdo_ok E f.d ⟨3, [], keep⟩ hkp ⟨k2, Nat.le_trans k1 (by decide)⟩ (by simp)
    have hd1 : (doD f.d ⟨3, [], keep⟩).2 = 0 := rfl
    have hd2 : (doD f.d ⟨3, [], keep⟩).1 = ⟨tear f.d keep, (tear f.d keep).length⟩ := rfl
    rw [hd1, hd2] at hdo
    have hpx := rprefix_ok E (tear f.d keep) (by omega)
    obtain ⟨p1, p2, p3⟩ := prefixR_text _ (tear f.d keep) (Nat.le_refl _)
    have hcf : crashF f keep = ⟨f.first, (prefixR (tear f.d keep)).1, (prefixR (tear f.d keep)).2⟩ := rfl
    have hx5 := text_len (prefixR (tear f.d keep)).1
    have hx6 : (text (prefixR (tear f.d keep)).1).length ≤ 8192 := by rw [p1, List.length_take]; omega
    generalize (prefixR (tear f.d keep)).1 = l2 at *
    generalize (prefixR (tear f.d keep)).2 = m at *
    generalize tear f.d keep = u at *
    obtain ⟨hq1, hq2⟩ := hr (f, q) (by simp)
    have hq3 : f.first + f.l.length ≤ 1000000 := hq2
    refine J_region ?_
    refine L_q (Q_fa0 rfl) rfl rfl rfl ?_
    refine L_q (Q_ld 1 rfl rfl rfl rfl) rfl rfl rfl ?_
    refine L_q (Q_lenAt 2 rfl rfl) rfl rfl rfl ?_
    refine L_q ((Q_eql rfl rfl).as (v' := .bool false) (congrArg Value.bool (decide_eq_false (by omega)))) rfl rfl rfl ?_
    refine JL_nil ?_
    refine seqQ_normal ?_
    refine J_condF rfl ?_
    refine J_skip ?_
    refine seqQ_normal ?_
    refine J_seq ?_
    refine J_region ?_
    refine L_q (Q_fa0 rfl) rfl rfl rfl ?_
    refine L_q (Q_ld 1 rfl rfl rfl rfl) rfl rfl rfl ?_
    refine L_q (Q_fa0 rfl) rfl rfl rfl ?_
    refine L_q (Q_ld 1 rfl rfl rfl rfl) rfl rfl rfl ?_
    refine L_q (Q_lenAt 2 rfl rfl) rfl rfl rfl ?_
    refine L_q (Q_sub rfl rfl (IntWalk.i64_in _ (by omega))) rfl rfl rfl ?_
    refine L_q (Q_ixAt 2 a.length rfl rfl rfl (by omega) hlt rfl) rfl rfl rfl ?_
    refine L_q (Q_ldEAAt 2 a.length 0 (vs := [.int .i64 (f.first : Int), str (text f.l), .int .i64 (f.s : Int), q.v]) rfl rfl rfl rfl hlt (by decide) (by rw [hgl]; rfl)) rfl rfl rfl ?_
    refine L_o rfl rfl rfl (O_alloc fun b5 => ?_)
    refine L_s rfl rfl (O_stW 0 rfl rfl rfl rfl ?_)
    refine JL.norm ?_
    refine JL_nil ?_
    refine seqQ_normal ?_
    refine J_seq ?_
    refine J_region ?_
    refine L_q (Q_fa0 rfl) rfl rfl rfl ?_
    refine L_q (Q_ldA 0 rfl rfl rfl) rfl rfl rfl ?_
    refine L_q (Q_move rfl) rfl rfl rfl ?_
    refine L_q (Q_build rfl) rfl rfl rfl ?_
    refine L_o rfl rfl rfl (O_call [] [0,1,2,3,4,5] hdo rfl rfl ?_)
    rintro _ _ ⟨rfl, rfl⟩
    refine JL.norm ?_
    refine L_q (Q_move rfl) rfl rfl rfl ?_
    refine L_q (Q_extract (v := dkV ⟨u, u.length⟩) rfl rfl) rfl rfl rfl ?_
    refine L_q (Q_extract (v := .int .i64 0) rfl rfl) rfl rfl rfl ?_
    refine L_o rfl rfl rfl (O_alloc fun b6 => ?_)
    refine L_s rfl rfl (O_stW 0 rfl rfl rfl rfl ?_)
    refine JL.norm ?_
    refine L_q (Q_assign rfl) rfl rfl rfl ?_
    refine JL_nil ?_
    refine seqQ_normal ?_
    refine J_seq ?_
    refine J_region ?_
    refine L_q (Q_fa0 rfl) rfl rfl rfl ?_
    refine L_q (Q_ld 0 rfl rfl rfl rfl) rfl rfl rfl ?_
    refine L_o rfl rfl rfl (O_call [] [0,1,2,3,4,5,6] hpx rfl rfl ?_)
    rintro _ _ ⟨T, rfl, rfl⟩
    refine JL.norm ?_
    refine L_q (Q_move rfl) rfl rfl rfl ?_
    refine L_q (Q_extract (v := T.v) rfl rfl) rfl rfl rfl ?_
    refine L_q (Q_extract (v := .int .i64 (m : Int)) rfl rfl) rfl rfl rfl ?_
    refine L_q (Q_assign rfl) rfl rfl rfl ?_
    refine L_q (Q_assign rfl) rfl rfl rfl ?_
    refine JL_nil ?_
    refine seqQ_normal ?_
    refine J_seq ?_
    refine J.have (p := T.n = l2.length) (fun w hs => (hs.rd 0 rfl).1) fun hTn => ?_
    refine J_drawH [1,2] [0, 1, 2, 3, 4, 5, 6, 7, 8, 9] (.quiet 0 (.quiet 1 (.quiet 2 (.quiet 3 (.quiet 4 (.quiet 5 (.quiet 6 (.quiet 7 (.quiet 8 (.quiet 9 (.loud 10 .done))))))))))) Try.mixed (by kernel_rfl) (by kernel_rfl) (by repeat (first | exact retQ_noP | refine seqQ_noP ?_ | refine blockQ_noP ?_ | refine loopQ_noP ?_ | refine scopeQ_noP ?_)) ?_
    refine S_q (Ent.re [1,2] rfl) rfl (Q_fa0 rfl) rfl rfl rfl ?_
    refine S_q (Ent.re [1,2] rfl) rfl (Q_ld 1 rfl rfl rfl rfl) rfl rfl rfl ?_
    refine S_q (Ent.re [1,2] rfl) rfl (Q_fa0 rfl) rfl rfl rfl ?_
    refine S_q (Ent.re [1,2] rfl) rfl (Q_ld 0 rfl rfl rfl rfl) rfl rfl rfl ?_
    refine S_q (Ent.re [1,2] rfl) rfl (Q_move rfl) rfl rfl rfl ?_
    refine S_q (Ent.re [1,2] rfl) rfl ((Q_ssH m rfl rfl rfl p2).as (congrArg str p1.symm)) rfl rfl rfl ?_
    refine S_q (Ent.re [1,2] rfl) rfl (Q_move rfl) rfl rfl rfl ?_
    refine S_q (Ent.re [1,2] rfl) rfl (Q_build rfl) rfl rfl rfl ?_
    refine S_q (Ent.re [1,2] rfl) rfl (Q_move rfl) rfl rfl rfl ?_
    refine S_q (Ent.re [1,2] rfl) rfl (Q_build rfl) rfl rfl rfl ?_
    refine S_s rfl rfl rfl (O_stW 2 rfl rfl rfl rfl ⟨[], free_no (by kernel_rfl), ?_⟩)
    refine JS.norm ?_
    refine S_nil ?_
    refine seqQ_normal ?_
    refine J_seq ?_
    have hr2 : ∀ r ∈ a ++ [((⟨f.first, l2, m⟩ : Fl), T)], r.2.n = r.1.l.length ∧ r.1.next ≤ 10000000 := by
      intro r hr'
      rw [List.mem_append, List.mem_singleton] at hr'
      rcases hr' with hr' | rfl
      · obtain ⟨z1, z2⟩ := hr r (by simp [hr']); exact ⟨z1, Nat.le_trans z2 (by decide)⟩
      · exact ⟨hTn, by simp only [Fl.next]; omega⟩
    refine J_region ?_
    refine L_q (Q_ldA 4 rfl rfl rfl) rfl rfl rfl ?_
    refine L_q (Q_ldA 2 rfl rfl rfl) rfl rfl rfl ?_
    refine L_o rfl rfl rfl (O_call [5] [0,1,2,3,4,6,7] (rlast_ok E size sure X a (f, q) (⟨f.first, l2, m⟩, T) (by omega)) rfl rfl ?_)
    rintro _ _ ⟨X', rfl, rfl⟩
    refine JL.norm ?_
    refine L_s rfl rfl (O_stW 5 rfl rfl rfl rfl ?_)
    refine JL.norm ?_
    refine JL_nil ?_
    refine seqQ_normal ?_
    refine J_seq ?_
    have hnx := rnext35_ok E size sure X' (a ++ [((⟨f.first, l2, m⟩ : Fl), T)]) (by simp; omega) hr2
    rw [List.map_append, List.map_cons, List.map_nil, nextOf_snoc] at hnx
    refine J_region ?_
    refine L_q (Q_ldA 5 rfl rfl rfl) rfl rfl rfl ?_
    refine L_o rfl rfl rfl (O_call [0] [1,2,3,4,5,6,7] hnx rfl rfl ?_)
    rintro _ _ ⟨rfl, rfl⟩
    refine JL.norm ?_
    refine L_q (Q_fa0 rfl) rfl rfl rfl ?_
    refine L_s rfl rfl (O_st1 5 rfl rfl rfl rfl rfl ?_)
    refine JL.norm ?_
    refine JL_nil ?_
    refine seqQ_normal ?_
    refine J_seq ?_
    refine J_region ?_
    refine L_q (Q_ldA 5 rfl rfl rfl) rfl rfl rfl ?_
    refine L_s rfl rfl (O_stW 4 rfl rfl rfl rfl ?_)
    refine JL.norm ?_
    refine JL_nil ?_
    refine seqQ_normal ?_
    refine J_ret ?_
    refine retQ_ret _ [slc tF true X' (a ++ [((⟨f.first, l2, m⟩ : Fl), T)]), rowsC (a ++ [((⟨f.first, l2, m⟩ : Fl), T)])] (.cons (RV_cell 4 rfl rfl rfl rfl) .nil) ⟨X', a ++ [((⟨f.first, l2, m⟩ : Fl), T)], by rw [hcf]; rfl, by rw [hcf]; simp, fun r h => (hr2 r h).1, rfl⟩ ?_
    refine (Ent.re [6, 1, 0, 7] rfl).trans ?_
    refine (Ent.last_out recAt a (f, q)).trans ?_
    refine (Ent.re [2, 1, 3, 4] rfl).trans ?_
    exact (Ent.last_in recAt a ((⟨f.first, l2, m⟩ : Fl), T)).trans (Ent.re [1, 0, 2] rfl)
end Go.Proofs
