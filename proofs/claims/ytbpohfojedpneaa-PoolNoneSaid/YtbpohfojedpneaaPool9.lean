/- A pool: what is picked. -/
import Derived.Test.YtbpohfojedpneaaPool8
set_option autoImplicit false
namespace Go.Proofs
open Go.SL
def atR (W : Int → List Rq) (r : Nat) (k : Int) : List Rq := (W k)[r]?.toList
def rowL (W : Int → List Rq) (r : Nat) : List Rq := kx.flatMap (atR W r)
def picksL (W : Int → List Rq) : List Rq := (List.range 4).flatMap (rowL W)
def pickL (W : Int → List Rq) (most : Int) : List Rq := (picksL W).take most.toNat
theorem rowC_eq (W : Int → List Rq) (r : Nat) : (clientsL W).flatMap (atR W r) = rowL W r := by
  unfold rowL clientsL
  generalize kx = l
  induction l with
  | nil => rfl
  | cons k l ih =>
    rw [List.filter_cons]
    by_cases h : W k = []
    · rw [if_neg (by simpa using h), List.flatMap_cons, ih]
      simp [atR, h]
    · rw [if_pos (by simpa using h), List.flatMap_cons, List.flatMap_cons, ih]
theorem row_nil {W : Int → List Rq} {r : Nat} (h : ∀ k, (W k).length ≤ r) : rowL W r = [] := by
  unfold rowL
  rw [List.flatMap_eq_nil_iff]
  intro k _
  rw [atR, List.getElem?_eq_none (h k)]; rfl
theorem rows_more (W : Int → List Rq) (R : Nat) (h : ∀ k, (W k).length ≤ R) : ∀ d, (List.range (R + d)).flatMap (rowL W) = (List.range R).flatMap (rowL W)
  | 0 => rfl
  | d + 1 => by
    rw [← Nat.add_assoc, List.range_succ, List.flatMap_append, rows_more W R h d]
    simp [row_nil (W := W) (r := R + d) fun k => by have := h k; omega]
theorem picks_R {W : Int → List Rq} {R : Nat} (h : ∀ k, (W k).length ≤ R) (hR : R ≤ 4) : (List.range R).flatMap (rowL W) = picksL W := by
  have := rows_more W R h (4 - R)
  rw [show R + (4 - R) = 4 by omega] at this
  exact this.symm
theorem take_grow {α : Type} (A : List α) (x : α) (m : Nat) (h : (A.take m).length < m) : (A ++ [x]).take m = A.take m ++ [x] := by
  rw [List.length_take] at h
  rw [List.take_of_length_le (by simp; omega), List.take_of_length_le (by omega)]
theorem take_full {α : Type} (A B : List α) (m : Nat) (h : ¬ (A.take m).length < m) : (A ++ B).take m = A.take m := by
  rw [List.length_take] at h
  exact List.take_append_of_le_length (by omega)
def preL (W : Int → List Rq) (r : Nat) (j : Nat) : List Rq := (List.range r).flatMap (rowL W) ++ ((clientsL W).take j).flatMap (atR W r)
theorem preL_0 (W : Int → List Rq) (r : Nat) : preL W r 0 = (List.range r).flatMap (rowL W) := by simp [preL]
theorem preL_end (W : Int → List Rq) (r : Nat) : preL W r (clientsL W).length = (List.range (r + 1)).flatMap (rowL W) := by
  rw [preL, List.take_length, rowC_eq, List.range_succ, List.flatMap_append]; simp
theorem preL_succ (W : Int → List Rq) (r j : Nat) (h : j < (clientsL W).length) : preL W r (j + 1) = preL W r j ++ atR W r (clientsL W)[j] := by
  rw [preL, preL, List.take_succ_eq_append_getElem h, List.flatMap_append, ← List.append_assoc]
  simp
attribute [local irreducible] J JL QOp JOp seqQ blockQ loopQ retQ slc cel hex star pur stars Does RV Ent pAt scopeQ
attribute [local irreducible] mpC mpX starsE poolA
theorem pick_ok (E : World) (p n : Nat) (W : Int → List Rq) (X : Int → Int) (most : Int) (hw : PW W X n) : Does Try.prog E 14 [.pointer (some ⟨p, 0, none⟩), .int .i64 most] [poolA p W X n] fun v L => ∃ O : SV, v = O.v ∧ L = [poolA p W X n, slc tRq true O (pickL W most)] := by
  have hcl := clientsL_len W
  refine Does.of Try.func14 rfl Try.ntmps14 rfl rfl fun F => ?_
  refine J.norm ?_
  refine J_seq ?_
  refine J_region ?_
  refine L_q (Q_assign rfl) rfl rfl rfl ?_
  refine JL_nil ?_
  refine seqQ_normal ?_
  refine J_seq ?_
  refine J_seq ?_
  refine J_region ?_
  refine L_q (Q_move rfl) rfl rfl rfl ?_
  refine L_q ((Q_peql rfl rfl).as (v' := .bool false) rfl) rfl rfl rfl ?_
  refine JL_nil ?_
  refine seqQ_normal ?_
  refine J_condF rfl ?_
  refine J_skip ?_
  refine seqQ_normal ?_
  refine J_seq ?_
  refine J_region ?_
  refine L_q (Q_move rfl) rfl rfl rfl ?_
  refine L_o rfl rfl rfl (O_call [0] [1] (clients_ok E p n W X hw) rfl rfl ?_)
  rintro _ _ ⟨C, R, rfl, hR, hR4, rfl⟩
  refine JL.norm ?_
  refine L_q (Q_move rfl) rfl rfl rfl ?_
  refine L_q (Q_extract (v := C.v) rfl rfl) rfl rfl rfl ?_
  refine L_q (Q_extract (v := .int .i64 (R : Int)) rfl rfl) rfl rfl rfl ?_
  refine L_q (Q_assign rfl) rfl rfl rfl ?_
  refine L_q (Q_assign rfl) rfl rfl rfl ?_
  refine JL_nil ?_
  refine seqQ_normal ?_
  refine J_seq ?_
  refine J_region ?_
  refine L_q (Q_assign rfl) rfl rfl rfl ?_
  refine JL_nil ?_
  refine seqQ_normal ?_
  refine J_seq ?_
  refine J_seq ?_
  refine J_region ?_
  refine L_q (Q_move rfl) rfl rfl rfl ?_
  refine L_q (Q_move rfl) rfl rfl rfl ?_
  refine JL_nil ?_
  refine seqQ_normal ?_
  refine J_block ?_
  refine J.ent (Ent.mk fun _ _ h => (h.lay_nil tRq true : Sat _ _ (slc tRq true SV.nil [] :: _))) ?_
  refine J_loop (fun i : Nat × SV => i.1 ≤ R ∧ (((List.range i.1).flatMap (rowL W)).take most.toNat).length ≤ 16 * i.1) (fun i => [(0, .pointer (some ⟨p, 0, none⟩)), (1, .int .i64 most), (5, C.v), (7, i.2.v), (19, .int .i64 (R : Int)), (20, .int .i64 (i.1 : Int))])
    (fun i => [slc tRq true i.2 (((List.range i.1).flatMap (rowL W)).take most.toNat), poolA p W X n, slc tZ true C (clientsL W), F]) (fun i => R - i.1) (0, SV.nil) ⟨by simp, by simp⟩ ⟨rfl, rfl, rfl, rfl, rfl, rfl, trivial⟩ (by simp only [List.range_zero, List.flatMap_nil, List.take_nil]; exact Ent.refl _) ?_
  rintro ⟨r, O⟩ ⟨hr, hO⟩
  dsimp only at hr hO ⊢
  refine J_seq ?_
  refine J_region ?_
  refine L_q (Q_lss rfl rfl) rfl rfl rfl ?_
  refine JL_nil ?_
  refine seqQ_normal ?_
  refine J_seq ?_
  refine J_condD rfl (fun h => ?_) (fun h => ?_)
  · have hlt : r < R := by omega
    refine J_skip ?_
    refine seqQ_normal ?_
    refine J_seq ?_
    refine J_block ?_
    refine J_seq ?_
    refine J_region ?_
    refine L_q (Q_move rfl) rfl rfl rfl ?_
    refine L_q (Q_assign rfl) rfl rfl rfl ?_
    refine JL_nil ?_
    refine seqQ_normal ?_
    refine J_seq ?_
    refine J_region ?_
    refine L_q (Q_move rfl) rfl rfl rfl ?_
    refine L_q (Q_lenAt 2 rfl rfl) rfl rfl rfl ?_
    refine L_q (Q_move rfl) rfl rfl rfl ?_
    refine JL_nil ?_
    refine seqQ_normal ?_
    refine J_block ?_
    refine J_loop (fun i : Nat × SV => i.1 ≤ (clientsL W).length ∧ ((preL W r i.1).take most.toNat).length ≤ 16 * r + i.1) (fun i => [(0, .pointer (some ⟨p, 0, none⟩)), (1, .int .i64 most), (5, C.v), (7, i.2.v), (8, .int .i64 (r : Int)), (19, .int .i64 (R : Int)), (20, .int .i64 (r : Int)), (23, C.v), (24, .int .i64 ((clientsL W).length : Int)), (25, .int .i64 (i.1 : Int))])
      (fun i => [slc tRq true i.2 ((preL W r i.1).take most.toNat), poolA p W X n, slc tZ true C (clientsL W), F]) (fun i => (clientsL W).length - i.1) (0, O) ⟨by simp, by simp only [preL_0]; omega⟩ ⟨rfl, rfl, rfl, rfl, rfl, rfl, rfl, rfl, rfl, rfl, trivial⟩ (by simp only [preL_0]; exact Ent.refl _) ?_
    rintro ⟨j, O2⟩ ⟨hj, hO2⟩
    dsimp only at hj hO2 ⊢
    refine J_seq ?_
    refine J_region ?_
    refine L_q (Q_lss rfl rfl) rfl rfl rfl ?_
    refine JL_nil ?_
    refine seqQ_normal ?_
    refine J_seq ?_
    refine J_condD rfl (fun h2 => ?_) (fun h2 => ?_)
    · have hjl : j < (clientsL W).length := by omega
      have hs := preL_succ W r j hjl
      generalize hkk : (clientsL W)[j] = k at *
      generalize preL W r j = A at *
      refine J_skip ?_
      refine seqQ_normal ?_
      refine J_seq ?_
      refine J_block ?_
      refine J_seq ?_
      refine J_region ?_
      refine L_q (Q_ixAt 2 j rfl rfl rfl rfl hjl rfl) rfl rfl rfl ?_
      refine L_q (Q_ldEAt 2 j 0 (v := .int .i64 k) rfl rfl rfl rfl hjl (by decide) (by rw [hkk]; rfl)) rfl rfl rfl ?_
      refine L_q (Q_assign rfl) rfl rfl rfl ?_
      refine JL_nil ?_
      refine seqQ_normal ?_
      refine J_seq ?_
      refine J.ent (Ent.re [1, 0, 2, 3] rfl) ?_
      refine J.poolA fun r1 r2 es m2 hm => ?_
      refine J_region ?_
      refine L_q (Q_move rfl) rfl rfl rfl ?_
      refine L_q (Q_nilCheck rfl) rfl rfl rfl ?_
      refine L_q (Q_fa0 rfl) rfl rfl rfl ?_
      refine L_q (Q_ld 0 rfl rfl rfl rfl) rfl rfl rfl ?_
      refine L_q (Q_move rfl) rfl rfl rfl ?_
      refine L_q ((Q_mget (M := mWt) 1 k rfl rfl rfl).as (v' := (svOf es k).v) (wt_val es k)) rfl rfl rfl ?_
      refine L_q (Q_assign rfl) rfl rfl rfl ?_
      refine JL_nil ?_
      refine seqQ_normal ?_
      refine J_seq ?_
      refine J.ent ((Ent.re [3, 0, 1, 2, 4, 5, 6] rfl).trans (hm.out k)) ?_
      have back : ∀ O3 l3, Ent (slc tRq true (svOf es k) (W k) :: starsE (restE es k) :: poolC p r1 r2 n :: mpC mWt r1 (m1 es) :: mpC mNx r2 m2 :: slc tRq true O3 l3 :: slc tZ true C (clientsL W) :: F :: []) [slc tRq true O3 l3, poolA p W X n, slc tZ true C (clientsL W), F] := fun O3 l3 =>
        (hm.back k).trans ((Ent.re [1, 2, 3, 0, 4, 5, 6] rfl).trans ((Ent.poolA_in hm).trans (Ent.re [1, 0, 2, 3] rfl)))
      by_cases hrl : r < (W k).length
      · have hat : atR W r k = [(W k)[r]] := by rw [atR, List.getElem?_eq_getElem hrl]; rfl
        by_cases hm1 : (A.take most.toNat).length < most.toNat
        · have ht := take_grow A (W k)[r] most.toNat hm1
          refine J_region ?_
          refine L_q (Q_move rfl) rfl rfl rfl ?_
          refine L_q (Q_move rfl) rfl rfl rfl ?_
          refine L_q (Q_lenAt 0 rfl rfl) rfl rfl rfl ?_
          refine L_q ((Q_lss rfl rfl).as (v' := .bool true) (congrArg Value.bool (decide_eq_true (by omega)))) rfl rfl rfl ?_
          refine L_q (Q_move rfl) rfl rfl rfl ?_
          refine L_q (Q_move rfl) rfl rfl rfl ?_
          refine L_q (Q_lenAt 5 rfl rfl) rfl rfl rfl ?_
          refine L_q (Q_move rfl) rfl rfl rfl ?_
          refine L_q ((Q_lss rfl rfl).as (v' := .bool true) (congrArg Value.bool (decide_eq_true (by omega)))) rfl rfl rfl ?_
          refine L_q (Q_pickT rfl rfl) rfl rfl rfl ?_
          refine JL_nil ?_
          refine seqQ_normal ?_
          refine J_condT rfl ?_
          refine J_region ?_
          refine L_q (Q_move rfl) rfl rfl rfl ?_
          refine L_q (Q_move rfl) rfl rfl rfl ?_
          refine L_q (Q_move rfl) rfl rfl rfl ?_
          refine L_q (Q_ixAt 0 r rfl rfl rfl rfl hrl rfl) rfl rfl rfl ?_
          refine L_q (Q_ldEAAt 0 r 0 (vs := rqV (W k)[r]) rfl rfl rfl rfl hrl (by decide) rfl) rfl rfl rfl ?_
          refine L_o rfl rfl rfl (O_litP (τ := tRq) (m := 1) (sz := 6) [(W k)[r]] rfl rfl rfl rfl rfl rfl (by decide) (fun T => ?_))
          refine JL.norm ?_
          refine L_o rfl rfl rfl (O_app (τ := tRq) 6 rfl (fun w h => h.rd 0 rfl) rfl rfl rfl rfl (by simp only [List.length_singleton]; omega) (by decide) (fun O3 => ?_))
          refine JL.norm ?_
          refine L_q (Q_assign rfl) rfl rfl rfl ?_
          refine JL_nil ?_
          refine blockQ_normal ?_
          refine seqQ_normal ?_
          refine J_region ?_
          refine L_q (Q_add rfl rfl (by first | exact IntWalk.i64_in _ (by omega) | exact IntWalk.u8_in _ (by omega) | exact IntWalk.u32_in _ (by omega) | exact IntWalk.u64_in _ (by omega) | rfl)) rfl rfl rfl ?_
          refine L_q (Q_move rfl) rfl rfl rfl ?_
          refine JL_nil ?_
          refine loopQ_normal (j + 1, O3) ⟨hjl, by simp only [hs, hat, ht, List.length_append, List.length_singleton]; omega⟩ (by simp only; omega) ⟨rfl, rfl, rfl, rfl, rfl, rfl, rfl, rfl, rfl, rfl, trivial⟩ ?_
          simp only [hs, hat, ht]
          exact (Ent.re [1, 2, 3, 4, 5, 6, 7, 8] rfl).trans (back O3 _)
        · have ht := take_full A (atR W r k) most.toNat hm1
          refine J_region ?_
          refine L_q (Q_move rfl) rfl rfl rfl ?_
          refine L_q (Q_move rfl) rfl rfl rfl ?_
          refine L_q (Q_lenAt 0 rfl rfl) rfl rfl rfl ?_
          refine L_q ((Q_lss rfl rfl).as (v' := .bool true) (congrArg Value.bool (decide_eq_true (by omega)))) rfl rfl rfl ?_
          refine L_q (Q_move rfl) rfl rfl rfl ?_
          refine L_q (Q_move rfl) rfl rfl rfl ?_
          refine L_q (Q_lenAt 5 rfl rfl) rfl rfl rfl ?_
          refine L_q (Q_move rfl) rfl rfl rfl ?_
          refine L_q ((Q_lss rfl rfl).as (v' := .bool false) (congrArg Value.bool (decide_eq_false (by omega)))) rfl rfl rfl ?_
          refine L_q (Q_pickT rfl rfl) rfl rfl rfl ?_
          refine JL_nil ?_
          refine seqQ_normal ?_
          refine J_condF rfl ?_
          refine J_skip ?_
          refine blockQ_normal ?_
          refine seqQ_normal ?_
          refine J_region ?_
          refine L_q (Q_add rfl rfl (by first | exact IntWalk.i64_in _ (by omega) | exact IntWalk.u8_in _ (by omega) | exact IntWalk.u32_in _ (by omega) | exact IntWalk.u64_in _ (by omega) | rfl)) rfl rfl rfl ?_
          refine L_q (Q_move rfl) rfl rfl rfl ?_
          refine JL_nil ?_
          refine loopQ_normal (j + 1, O2) ⟨hjl, by simp only [hs, ht]; omega⟩ (by simp only; omega) ⟨rfl, rfl, rfl, rfl, rfl, rfl, rfl, rfl, rfl, rfl, trivial⟩ ?_
          simp only [hs, ht]
          exact back O2 _
      · have hat : atR W r k = [] := by rw [atR, List.getElem?_eq_none (by omega)]; rfl
        rw [hat, List.append_nil] at hs
        refine J_region ?_
        refine L_q (Q_move rfl) rfl rfl rfl ?_
        refine L_q (Q_move rfl) rfl rfl rfl ?_
        refine L_q (Q_lenAt 0 rfl rfl) rfl rfl rfl ?_
        refine L_q ((Q_lss rfl rfl).as (v' := .bool false) (congrArg Value.bool (decide_eq_false (by omega)))) rfl rfl rfl ?_
        refine L_q (Q_move rfl) rfl rfl rfl ?_
        refine L_n rfl rfl rfl ?_
        refine L_n rfl rfl rfl ?_
        refine L_n rfl rfl rfl ?_
        refine L_n rfl rfl rfl ?_
        refine L_q (Q_pickF rfl rfl) rfl rfl rfl ?_
        refine JL_nil ?_
        refine seqQ_normal ?_
        refine J_condF rfl ?_
        refine J_skip ?_
        refine blockQ_normal ?_
        refine seqQ_normal ?_
        refine J_region ?_
        refine L_q (Q_add rfl rfl (by first | exact IntWalk.i64_in _ (by omega) | exact IntWalk.u8_in _ (by omega) | exact IntWalk.u32_in _ (by omega) | exact IntWalk.u64_in _ (by omega) | rfl)) rfl rfl rfl ?_
        refine L_q (Q_move rfl) rfl rfl rfl ?_
        refine JL_nil ?_
        refine loopQ_normal (j + 1, O2) ⟨hjl, by simp only [hs]; omega⟩ (by simp only; omega) ⟨rfl, rfl, rfl, rfl, rfl, rfl, rfl, rfl, rfl, rfl, trivial⟩ ?_
        simp only [hs]
        exact back O2 _
    · obtain rfl : j = (clientsL W).length := by omega
      rw [preL_end] at hO2 ⊢
      refine J_exit ?_
      refine seqQ_exit ?_
      refine loopQ_exit ?_
      refine blockQ_hit ?_
      refine blockQ_normal ?_
      refine seqQ_normal ?_
      refine J_region ?_
      refine L_q (Q_add rfl rfl (by first | exact IntWalk.i64_in _ (by omega) | exact IntWalk.u8_in _ (by omega) | exact IntWalk.u32_in _ (by omega) | exact IntWalk.u64_in _ (by omega) | rfl)) rfl rfl rfl ?_
      refine L_q (Q_move rfl) rfl rfl rfl ?_
      refine JL_nil ?_
      exact loopQ_normal (r + 1, O2) ⟨hlt, by simp only; omega⟩ (by simp only; omega) ⟨rfl, rfl, rfl, rfl, rfl, rfl, trivial⟩ (Ent.refl _)
  · obtain rfl : r = R := by omega
    rw [picks_R hR hR4]
    refine J_exit ?_
    refine seqQ_exit ?_
    refine loopQ_exit ?_
    refine blockQ_hit ?_
    refine seqQ_normal ?_
    refine J_seq ?_
    refine J_region ?_
    refine L_q (Q_move rfl) rfl rfl rfl ?_
    refine L_q (Q_assign rfl) rfl rfl rfl ?_
    refine JL_nil ?_
    refine seqQ_normal ?_
    refine J_ret ?_
    exact retQ_ret _ [poolA p W X n, slc tRq true O (pickL W most)] (.cons (RV_tmp rfl) .nil) ⟨O, rfl, rfl⟩ (Ent.re [1, 0, 3] rfl)
end Go.Proofs
