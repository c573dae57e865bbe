/- Part 29 of the texts below the row: Dkg2, OrdP, LagP. -/
import Derived.Test.YtdggicfcpcjjlaaGreatDoorM1
import Derived.Test.YtdggicfcpcjjlaaGreatDoorM13
import Derived.Test.YtdggicfcpcjjlaaGreatDoorM26
import Derived.Test.YtdggicfcpcjjlaaGreatDoorM28
/- Deals: made. -/
set_option autoImplicit false
namespace Go.Proofs
open Go.SL
theorem fst_set {α β : Type} (l : List (α × β)) (i : Nat) (x : α × β) : (l.set i x).map (·.1) = (l.map (·.1)).set i x.1 := List.map_set ..
/-- How far the values of a row are: those below i have one more. -/
noncomputable def part (l : List (List W4)) (c : List W4) (n i : Nat) : List (List W4) := (List.range n).map fun j => l.map (fun c => valW c (j + 1)) ++ if j < i then [valW c (j + 1)] else []
theorem part_0 (l : List (List W4)) (c : List W4) (n : Nat) : part l c n 0 = (List.range n).map fun j => l.map fun c => valW c (j + 1) := by
 unfold part
 congr 1
 funext j
 simp
theorem part_n (l : List (List W4)) (c : List W4) (n : Nat) : part l c n n = (List.range n).map fun j => (l ++ [c]).map fun c => valW c (j + 1) := by
 unfold part
 refine List.map_congr_left fun j hj => ?_
 rw [if_pos (List.mem_range.1 hj), List.map_append]; rfl
theorem part_len (l : List (List W4)) (c : List W4) (n i : Nat) : (part l c n i).length = n := by unfold part; simp
theorem part_get (l : List (List W4)) (c : List W4) (n i : Nat) (h : i < n) : (part l c n i)[i]'(by rw [part_len]; exact h) = l.map fun c => valW c (i + 1) := by
 simp [part]
theorem part_set (l : List (List W4)) (c : List W4) (n i : Nat) (_ : i < n) : (part l c n i).set i ((l.map fun c => valW c (i + 1)) ++ [valW c (i + 1)]) = part l c n (i + 1) := by
 unfold part
 refine List.ext_getElem (by simp) fun j h1 h2 => ?_
 simp only [List.length_set, List.length_map, List.length_range] at h1 h2
 rw [List.getElem_set]
 simp only [List.getElem_map, List.getElem_range]
 by_cases hj : i = j
 ·subst hj
  rw [if_pos rfl, if_pos (Nat.lt_succ_self _)]
 ·rw [if_neg hj]
  congr 1
  by_cases h3 : j < i
  ·rw [if_pos h3, if_pos (by omega)]
  ·rw [if_neg h3, if_neg (by omega)]
attribute [local irreducible] J JL QOp JOp seqQ blockQ loopQ retQ slc cel hex star pur stars Does RV Ent pAt scopeQ JR seqR endR JLI DoesY
section
variable (E : World) (f1 f2 : Bool) (S T : SV) (c : List W4)
theorem dright_ok (n : Int) (hn : -9223372036854775808 ≤ n ∧ n ≤ 9223372036854775807) (t : Nat) (ht : t ≤ 2) (hc : ∀ k ∈ c, k.ok ∧ k.n < Nt.pQ) (hl : c.length ≤ 1000) (k : Nat) (hk : k < 4) : Does Tryz.prog E 41 [.int .i64 (k : Int), .int .i64 n, .int .i64 (t : Int), S.v] [slc tNs f1 S [T], slc tNm f2 T c] fun v L => v = .bool (rghtB n t c.length k) ∧ L = [slc tNs f1 S [T], slc tNm f2 T c] := by
 match k, hk with
 | 0, _ => exact right0_ok E f1 f2 S T c n hn t ht
 | 1, _ => exact right1_ok E f1 f2 S T c n t
 | 2, _ => exact right2_ok E f1 f2 S T c n t ht hl
 | 3, _ => exact right3_ok E f1 f2 S T c n t ht hc hl
/-- Is such a deal made? -/
def dealB (n : Int) (t l : Nat) : Bool := quoB n t && decide (l = t + 1)
theorem dealB_of {n : Int} {t l : Nat} (h : ∀ k, k < 4 → rghtB n t l k = true) : dealB n t l = true := by
 have h0 := h 0 (by decide)
 have h2 := h 2 (by decide)
 unfold dealB
 rw [show quoB n t = true from h0, show decide (l = t + 1) = true from h2]; rfl
theorem dealB_no {n : Int} {t l k : Nat} (hk : k < 4) (h : rghtB n t l k = false) : dealB n t l = false := by
 match k, hk with
 | 0, _ => unfold dealB; rw [show quoB n t = false from h]; rfl
 | 1, _ => cases h
 | 2, _ => unfold dealB; rw [show decide (l = t + 1) = false from h, Bool.and_false]
 | 3, _ => cases h
theorem deals_ok (n : Int) (hn : -9223372036854775808 ≤ n ∧ n ≤ 9223372036854775807) (t : Nat) (ht : t ≤ 2) (hc : ∀ k ∈ c, k.ok ∧ k.n < Nt.pQ) (hl : c.length ≤ 1000) :
 Does Tryz.prog E 10 [.int .i64 n, .int .i64 (t : Int), S.v] [slc tNs f1 S [T], slc tNm f2 T c] fun r L =>
  (dealB n t c.length = false ∧ r = .tuple #[dlV SV.nil SV.nil, .int .i64 1] ∧ L = [slc tNs f1 S [T], slc tNm f2 T c]) ∨
  (dealB n t c.length = true ∧ ∃ d : Dl, DlOf d n.toNat [c] ∧ r = .tuple #[dlV d.C d.V, .int .i64 0] ∧ L = [dlA d, slc tNs f1 S [T], slc tNm f2 T c]) := by
 have hr := dright_ok E f1 f2 S T c n hn t ht hc hl
 refine Does.of Tryz.func10 rfl Tryz.ntmps10 rfl rfl fun F => ?_
 refine Xb ?_
 refine L_o rfl rfl rfl (O_alloc fun b6 => ?_)
 refine XA ?_
 refine XP ?_
 refine J_loop (fun i : Nat => i ≤ 4 ∧ ∀ k, k < i → rghtB n t c.length k = true) (fun i => [(0, .int .i64 n), (1, .int .i64 (t : Int)), (2, S.v), (6, .pointer (some ⟨b6, 0, none⟩)), (13, .int .i64 (i : Int))]) (fun _ => [cel b6 (dlL SV.nil SV.nil) 43, slc tNs f1 S [T], slc tNm f2 T c, F]) (fun i => 4 - i) 0 ⟨Nat.zero_le _, fun k h => by omega⟩ ⟨rfl, rfl, rfl, rfl, rfl, trivial⟩ (Ent.refl _) ?_
 rintro i ⟨hi, hall⟩
 by_cases h4 : i < 4
 ·have hri := hr i h4
  refine XR ?_
  refine Xn ?_
  cases hb : rghtB n t c.length i with
  | false =>
   rw [hb] at hri
   refine Xl ?_
   refine Xf ?_
   refine L_o rfl rfl rfl (O_call [1,2] [0,3] hri rfl rfl ?_)
   rintro _ _ ⟨rfl, rfl⟩
   refine Xc ?_
   refine Xcl ?_
   refine Xm ?_
   refine XW ?_
   refine XbW ?_
   refine Xaa ?_
   refine Xbc ?_
   refine XY ?_
   exact retQ_ret _ [_, _] (.cons (RV_cell 2 rfl rfl rfl rfl) (.cons (RV_tmp rfl) .nil)) (.inl ⟨dealB_no h4 hb, rfl, rfl⟩) (Ent.re [0,1,3] rfl)
  | true =>
   rw [hb] at hri
   refine Xl ?_
   refine Xf ?_
   refine L_o rfl rfl rfl (O_call [1,2] [0,3] hri rfl rfl ?_)
   rintro _ _ ⟨rfl, rfl⟩
   refine Xav ?_
   refine XaI ?_
   refine XaS ?_
   exact loopQ_normal (i + 1) ⟨by omega, fun k hk => by
    by_cases e : k = i
    ·subst e; exact hb
    ·exact hall k (by omega)⟩ (by omega) ⟨rfl, rfl, rfl, rfl, rfl, trivial⟩ (Ent.re [2,0,1,3] rfl)
 ·obtain rfl : i = 4 := by omega
  have hB := dealB_of hall
  have hq : 1 ≤ n ∧ n ≤ 7 := by
   have h0 : quoB n t = true := hall 0 (by decide)
   unfold quoB at h0
   simp only [Bool.and_eq_true, decide_eq_true_eq] at h0
   omega
  obtain ⟨m, rfl⟩ : ∃ m : Nat, n = (m : Int) := ⟨n.toNat, by omega⟩
  refine Xbb ?_
  refine Xg ?_
  refine L_o rfl rfl rfl (O_mk (τ := tNs) m SV.nil rfl rfl rfl rfl rfl rfl (by omega) (by decide) (fun V => ?_))
  refine Xc ?_
  refine Xk ?_
  refine L_o rfl rfl rfl (O_alloc fun b9 => ?_)
  refine XB ?_
  refine Xg ?_
  refine Lq (Q_lenAt 3 rfl rfl) ?_
  refine XJ ?_
  have hV0 : List.replicate m SV.nil = (List.replicate m (SV.nil, ([] : List W4))).map (·.1) := by simp
  rw [hV0]
  have hpart : (List.replicate m (SV.nil, ([] : List W4))).map (·.2) = part [] c m 0 := by
   rw [part_0]
   exact List.ext_getElem (by simp) fun i h1 h2 => by simp
  refine J.ent ((Ent.stars_triv (R := (List.replicate m (SV.nil, ([] : List W4))).map rowN) fun i c hi E g => by
   rw [List.map_replicate] at hi
   have := List.mem_replicate.1 (List.mem_of_getElem? hi)
   rw [this.2]; exact own_nil tNm true E g).trans ((Ent.stars_nil).trans (Ent.mk fun _ _ h => (h.lay_nil tPs true : Sat _ _ (slc tPs true SV.nil [] :: _))))) ?_
  refine J_loop (fun i : Nat × SV × List (SV × List Pw) × List (SV × List W4) => i.1 ≤ 1 ∧ i.2.2.1.map (·.2) = ([c].take i.1).map cmtL ∧ i.2.2.2.map (·.2) = (List.range m).map fun j => ([c].take i.1).map fun c => valW c (j + 1)) (fun i => [(6, .pointer (some ⟨b6, 0, none⟩)), (9, .pointer (some ⟨b9, 0, none⟩)), (27, S.v), (28, .int .i64 1), (29, .int .i64 (i.1 : Int))])
   (fun i => [slc tPs true i.2.1 (i.2.2.1.map (·.1)), stars (i.2.2.1.map rowP), cel b9 (dlL i.2.1 V) 43, slc tNs true V (i.2.2.2.map (·.1)), stars (i.2.2.2.map rowN), cel b6 (dlL SV.nil SV.nil) 43, slc tNs f1 S [T], slc tNm f2 T c, F]) (fun i => 1 - i.1) (0, SV.nil, [], List.replicate m (SV.nil, [])) ⟨Nat.zero_le _, rfl, by rw [hpart, part_0]; rfl⟩ ⟨rfl, rfl, rfl, rfl, rfl, trivial⟩ (Ent.re [0,1,3,4,2,5,6,7,8] rfl) ?_
  rintro ⟨i, C, rows, vals⟩ ⟨hi, hrows, hvals⟩
  dsimp only at hi hrows hvals
  by_cases h1 : i < 1
  ·obtain rfl : i = 0 := by omega
   obtain rfl : rows = [] := List.map_eq_nil_iff.1 hrows
   have hp0 : vals.map (·.2) = part [] c m 0 := by rw [hvals, part_0]; rfl
   have hvl : vals.length = m := by have := congrArg List.length hp0; rwa [List.length_map, part_len] at this
   have hcm := commit_ok E f2 T c (fun k hk => (hc k hk).1) hl
   refine Xdo ?_
   refine Sr ?_
   refine Lq (Q_ixAt 6 0 rfl rfl rfl rfl Nat.zero_lt_one rfl) ?_
   refine Lq (Q_ldEAt 6 0 0 (v := T.v) rfl rfl rfl rfl Nat.zero_lt_one (by decide) rfl) ?_
   refine Xn ?_
   refine DH [2] [0,1,2,6] (.quiet 0 (.quiet 1 (.quiet 2 (.loud 3 (.loud 4 (.loud 5 (.quiet 6 (.loud 7 .done)))))))) Tryz.mixed ?_
   refine XdA ?_
   refine Xbs ?_
   refine S_o rfl rfl rfl rfl (O_call [7] [0,1,2,3,4,5,6,8] hcm rfl rfl ?_)
   (rintro _ _ ⟨T', rfl, rfl⟩; refine ⟨_, fun _ => ⟨Ent.reN [4] rfl, Ent.refl _⟩, ?_⟩)
   refine Xa ?_
   refine S_o rfl rfl rfl rfl (O_litP (τ := tPs) (m := 1) (sz := 1) [T'] rfl rfl rfl rfl rfl rfl (by decide) (fun U => ⟨_, fun _ => ⟨Ent.reN [5] rfl, Ent.refl _⟩, ?_⟩))
   refine Xa ?_
   refine S_o rfl rfl rfl rfl (O_app (τ := tPs) 3 rfl (fun w h => h.rd 0 rfl) rfl rfl rfl rfl (by show (0 + 1) * 24 ≤ 140737488355328; decide) (by decide) (fun C' => ⟨_, fun _ => ⟨Ent.reN [5] rfl, Ent.refl _⟩, ?_⟩))
   refine Xa ?_
   refine Sq (Ent.re [5] rfl) rfl (Q_fa0 rfl) ?_
   refine S_s rfl rfl rfl (O_st1 5 rfl rfl rfl rfl rfl ⟨[], free_no (by kernel_rfl), ?_⟩)
   refine Xbg ?_
   refine X3 ?_
   refine Lq (Q_ld 5 rfl rfl rfl rfl) ?_
   refine Lq ((Q_lenAt 6 rfl rfl).as (v' := .int .i64 (m : Int)) (by rw [List.length_map, hvl])) ?_
   refine XJ ?_
   refine J_loop (fun j : Nat × List (SV × List W4) => j.1 ≤ m ∧ j.2.map (·.2) = part [] c m j.1) (fun j => [(6, .pointer (some ⟨b6, 0, none⟩)), (9, .pointer (some ⟨b9, 0, none⟩)), (11, T.v), (27, S.v), (28, .int .i64 1), (29, .int .i64 0), (42, .int .i64 (m : Int)), (43, .int .i64 (j.1 : Int))])
    (fun j => [slc tNs true V (j.2.map (·.1)), stars (j.2.map rowN), cel b9 (dlL C' V) 43, slc tPw true T' (cmtL c), slc tNm f2 T c, slc tPs true C' [T'], stars ([].map rowP), cel b6 (dlL SV.nil SV.nil) 43, slc tNs f1 S [T], F]) (fun j => m - j.1) (0, vals) ⟨Nat.zero_le _, hp0⟩ ⟨rfl, rfl, rfl, rfl, rfl, rfl, rfl, rfl, trivial⟩ (Ent.re [6,7,5,1,2,3,4,8,9,10] rfl) ?_
   rintro ⟨j, vs⟩ ⟨hj, hpj⟩
   dsimp only at hj hpj
   have hvsl : vs.length = m := by have := congrArg List.length hpj; rwa [List.length_map, part_len] at this
   by_cases hjm : j < m
   ·have hjv : j < vs.length := by omega
    have hj2 : vs[j].2 = [] := by
     have h3 : (vs.map (·.2))[j]'(by rw [List.length_map]; exact hjv) = [] := by
      simp only [hpj]; exact part_get [] c m j hjm
     rwa [List.getElem_map] at h3
    have hev := eval_ok E f2 T c (fun k hk => (hc k hk).1) hl (j + 1) (by omega)
    have hset := part_set [] c m j hjm
    rw [← hpj] at hset
    have hin := fun x => Ent.row_in (L := [slc tNs true V ((vs.set j x).map (·.1)), cel b9 (dlL C' V) 43, slc tPw true T' (cmtL c), slc tNm f2 T c, slc tPs true C' [T'], stars ([].map rowP), cel b6 (dlL SV.nil SV.nil) 43, slc tNs f1 S [T], F]) rowN vs j hjv x
    have hg1 : (vs.map (·.1))[j]'(by rw [List.length_map]; exact hjv) = vs[j].1 := List.getElem_map ..
    refine XR ?_
    refine Xi ?_
    refine J.ent ((Ent.re [1,0,2,3,4,5,6,7,8,9] rfl).trans (Ent.row_out rowN vs j hjv)) ?_
    generalize hx : vs[j] = x at *
    obtain ⟨Sj, lj⟩ := x
    dsimp only at hj2 hg1
    subst hj2
    refine DH [2,3] [0,1,2,3,4,5,6,7,8,9,10,14] (.quiet 0 (.quiet 1 (.quiet 2 (.quiet 3 (.quiet 4 (.quiet 5 (.quiet 6 (.quiet 7 (.quiet 8 (.quiet 9 (.quiet 10 (.loud 11 (.loud 12 (.loud 13 (.quiet 14 (.loud 15 .done)))))))))))))))) Tryz.mixed ?_
    refine Sq (Ent.re [2,3] rfl) rfl (Q_fa0 rfl) ?_
    refine Sq (Ent.re [2,3] rfl) rfl (Q_ld 1 rfl rfl rfl rfl) ?_
    refine Sq (Ent.re [2,3] rfl) rfl (Q_move rfl) ?_
    refine Sq (Ent.re [2,3] rfl) rfl (Q_fa0 rfl) ?_
    refine Sq (Ent.re [2,3] rfl) rfl (Q_ld 1 rfl rfl rfl rfl) ?_
    refine Sq (Ent.re [2,3] rfl) rfl (Q_move rfl) ?_
    refine Sq (Ent.re [2,3] rfl) rfl (Q_ixAt 0 j rfl rfl rfl rfl (by rw [List.length_map]; exact hjv) rfl) ?_
    refine Sq (Ent.re [2,3] rfl) rfl (Q_ldEAt 0 j 0 (v := Sj.v) rfl rfl rfl rfl (by rw [List.length_map]; exact hjv) (by decide) (by rw [hg1]; rfl)) ?_
    refine Sq (Ent.re [2,3] rfl) rfl (Q_move rfl) ?_
    refine Sq (Ent.re [2,3] rfl) rfl (Q_move rfl) ?_
    refine Sq (Ent.re [2,3] rfl) rfl ((Q_add rfl rfl (IntWalk.i64_in _ (by omega))).as (v' := .int .i64 ((j + 1 : Nat) : Int)) rfl) ?_
    refine S_o rfl rfl rfl rfl (O_call [5] [0,1,2,3,4,6,7,8,9,10] hev rfl rfl ?_)
    (rintro _ _ ⟨rfl, rfl⟩; refine ⟨_, fun _ => ⟨Ent.reN [3,4] rfl, Ent.refl _⟩, ?_⟩)
    refine Xa ?_
    refine S_o rfl rfl rfl rfl (O_litP (τ := tNm) (m := 1) (sz := 4) [valW c (j + 1)] rfl rfl rfl rfl rfl rfl (by decide) (fun U2 => ⟨_, fun _ => ⟨Ent.reN [4,5] rfl, Ent.refl _⟩, ?_⟩))
    refine Xa ?_
    refine S_o rfl rfl rfl rfl (O_app (τ := tNm) 2 rfl (fun w h => h.rd 0 rfl) rfl rfl rfl rfl (by show (0 + 1) * 32 ≤ 140737488355328; decide) (by decide) (fun S' => ⟨_, fun _ => ⟨Ent.reN [4,5] rfl, Ent.refl _⟩, ?_⟩))
    refine Xa ?_
    refine Sq (Ent.re [4,5] rfl) rfl (Q_ixAt 0 j rfl rfl rfl rfl (by rw [List.length_map]; exact hjv) rfl) ?_
    refine S_s rfl rfl rfl (O_stE 4 j 0 S' rfl rfl rfl rfl rfl rfl (tNs.one _) (by rw [List.length_map]; exact hjv) (Nat.le_refl 1) (by rw [List.take_zero, List.nil_append, List.drop_of_length_le (by rw [tNs.len]; exact Nat.le_refl 1), List.append_nil]; rfl) ⟨[], free_no (by kernel_rfl), ?_⟩)
    refine Xaq ?_
    refine XV ?_
    have hin2 := hin (S', [valW c (j + 1)])
    rw [fst_set] at hin2
    refine Xh ?_
    refine XbG ?_
    refine JL_nil ?_
    refine loopQ_normal (j + 1, vs.set j (S', [valW c (j + 1)])) ⟨by show j + 1 ≤ m; omega, by show (vs.set j (S', [valW c (j + 1)])).map (·.2) = _; rw [List.map_set]; exact hset⟩ (by show m - (j + 1) < m - j; omega) ⟨rfl, rfl, rfl, rfl, rfl, rfl, rfl, rfl, trivial⟩ ?_
    dsimp only
    rw [fst_set]
    exact (Ent.re [2,3,4,5,6,1,7,8,9,10,11] rfl).trans (hin2.trans (Ent.re [1,0,2,3,4,5,6,7,8,9] rfl))
   ·obtain rfl : j = m := by omega
    refine Xct ?_
    refine XbA ?_
    refine X8 ?_
    refine Xcg ?_
    exact loopQ_normal (1, C', [(T', cmtL c)], vs) ⟨Nat.le_refl _, rfl, by show vs.map (·.2) = _; rw [hpj, part_n]; rfl⟩ (by show 1 - 1 < 1 - 0; decide) ⟨rfl, rfl, rfl, rfl, rfl, trivial⟩ ((Ent.re [3,6,5,2,0,1,7,8,4,9] rfl).trans ((Ent.last_in rowP [] (T', cmtL c)).trans (Ent.re [1,0,2,3,4,5,6,7,8] rfl)))
  ·obtain rfl : i = 1 := by omega
   refine Xbb ?_
   refine XZ ?_
   refine Xdx ?_
   refine Xaa ?_
   exact retQ_ret _ [dlA ⟨C, rows, V, vals⟩, slc tNs f1 S [T], slc tNm f2 T c] (.cons (RV_cell 5 rfl rfl rfl rfl) (.cons (RV_tmp rfl) .nil)) (.inr ⟨hB, ⟨C, rows, V, vals⟩, ⟨hrows, hvals⟩, rfl, rfl⟩) ((Ent.re [0,1,3,4,6,7,8] rfl).trans (Ent.dl_in ⟨C, rows, V, vals⟩))
end
end Go.Proofs
/- The order of the base: by doubles and sums, run by the kernel. -/
set_option autoImplicit false
namespace Go.Ec
open Go.Nt
section
variable {n : Nat} [NeZero n] {c : Cv n}
/-- Bit by bit from the top: k is n / 2 ^ f ahead of it. -/
def jb (m : Nat) (w : Jp n) : Nat → Jp n → Jp n
 | 0, r => r
 | f + 1, r => jb m w f (if m / 2 ^ f % 2 = 1 then jadd (jdbl r) w else jdbl r)
theorem jb_rep (ha : c.a = -3) (m : Nat) {w : Jp n} {A : E c} (hw : Rep w A.p) : ∀ (f : Nat) (r : Jp n), Rep r (E.mul (m / 2 ^ f) A).p → Rep (jb m w f r) (E.mul m A).p
 | 0, r, h => by rw [Nat.pow_zero, Nat.div_one] at h; exact h
 | f + 1, r, h => by
  have h1 := jdbl_rep ha h
  rw [E.mul2] at h1
  have e : m / 2 ^ f = 2 * (m / 2 ^ (f + 1)) + m / 2 ^ f % 2 := by
   rw [Nat.pow_succ, ← Nat.div_div_eq_div_mul]; omega
  unfold jb
  refine jb_rep ha m hw f _ ?_
  split
  ·rename_i h2
   have h3 := jadd_rep ha h1 hw
   rw [e, h2, E.mul_add, E.mul_one]; exact h3
  ·rename_i h2
   rw [e, show m / 2 ^ f % 2 = 0 by omega]; exact h1
/-- The same by numbers alone. -/
def sb (n a b : Nat) : Nat := (n - b + a) % n
def njd {β : Type} (n x y z : Nat) (k : Nat → Nat → Nat → β) : β :=
 match z with
 | 0 => k x y 0
 | z + 1 => strict ((z + 1) * (z + 1) % n) fun de => strict (y * y % n) fun ga => strict (x * ga % n) fun be =>
  strict (sb n x de * ((x + de) % n) % n) fun t => strict ((t + (t + t) % n) % n) fun al => strict ((((be + be) % n) + ((be + be) % n)) % n) fun fo =>
  strict (sb n (al * al % n) ((fo + fo) % n)) fun x2 => strict (ga * ga % n) fun gg => strict ((gg + gg) % n) fun g2 => strict ((g2 + g2) % n) fun g4 => strict ((g4 + g4) % n) fun g =>
  strict (sb n (al * sb n fo x2 % n) g) fun y2 => strict (sb n (sb n (((y + (z + 1)) % n) * ((y + (z + 1)) % n) % n) ga) de) fun z2 => k x2 y2 z2
theorem njd_eq {β : Type} (j : Jp n) (k : Nat → Nat → Nat → β) : njd n j.X.val j.Y.val j.Z.val k = k (jdbl j).X.val (jdbl j).Y.val (jdbl j).Z.val := by
 obtain ⟨X, Y, Z⟩ := j
 dsimp only
 by_cases hz : Z = 0
 ·subst hz
  unfold jdbl
  rw [if_pos rfl]
  rfl
 ·obtain ⟨z, h⟩ : ∃ z, Z.val = z + 1 := by
   have : Z.val ≠ 0 := fun e => hz (Fin.ext e)
   exact ⟨Z.val - 1, by omega⟩
  unfold jdbl
  rw [if_neg hz]
  have e1 : ((Z * Z : Fin n)).val = (z + 1) * (z + 1) % n := by rw [Fin.val_mul, h]
  rw [h]
  simp only [njd, strict_eq, jdbl0, sb, Fin.val_mul, Fin.val_add, Fin.sub_def, h]
def nja {β : Type} (n x y z a b : Nat) (k : Nat → Nat → Nat → β) : β :=
 match z with
 | 0 => k a b 1
 | z + 1 => strict ((z + 1) * (z + 1) % n) fun pp => strict (a * pp % n) fun v => strict (b * (pp * (z + 1) % n) % n) fun t =>
  strict (sb n v x) fun h => strict (sb n t y) fun r =>
  match h with
  | 0 => (match r with | 0 => njd n x y (z + 1) k | _ + 1 => k 0 0 0)
  | h + 1 => strict ((h + 1) * (h + 1) % n) fun hh => strict (hh * (h + 1) % n) fun hhh => strict (x * hh % n) fun w =>
   strict (sb n (sb n (r * r % n) hhh) ((w + w) % n)) fun x2 => strict (sb n (r * sb n w x2 % n) (y * hhh % n)) fun y2 => strict ((h + 1) * (z + 1) % n) fun z2 => k x2 y2 z2
theorem nja_eq {β : Type} (h1 : 1 < n) (j : Jp n) (a b : Fin n) (k : Nat → Nat → Nat → β) : nja n j.X.val j.Y.val j.Z.val a.val b.val k = k (jadd j ⟨a, b, 1⟩).X.val (jadd j ⟨a, b, 1⟩).Y.val (jadd j ⟨a, b, 1⟩).Z.val := by
 obtain ⟨X, Y, Z⟩ := j
 have one : (1 : Fin n).val = 1 := Nat.mod_eq_of_lt h1
 have one0 : (1 : Fin n) ≠ 0 := fun e => by have := congrArg Fin.val e; rw [one, Fin.val_zero] at this; exact absurd this (by decide)
 have m1 : ∀ x : Fin n, x * 1 = x := fun x => by grobner
 dsimp only
 by_cases hz : Z = 0
 ·subst hz
  unfold jadd
  rw [if_pos rfl]
  show k a.val b.val 1 = k a.val b.val (1 : Fin n).val
  rw [one]
 ·obtain ⟨z, h⟩ : ∃ z, Z.val = z + 1 := by
   have : Z.val ≠ 0 := fun e => hz (Fin.ext e)
   exact ⟨Z.val - 1, by omega⟩
  unfold jadd
  rw [if_neg hz, if_neg one0]
  dsimp only
  simp only [m1]
  have eh : (a * (Z * Z) - X).val = sb n (a.val * ((z + 1) * (z + 1) % n) % n) X.val := by simp only [sb, Fin.val_mul, Fin.sub_def, h]
  have er : (b * (Z * Z * Z) - Y).val = sb n (b.val * ((z + 1) * (z + 1) % n * (z + 1) % n) % n) Y.val := by simp only [sb, Fin.val_mul, Fin.sub_def, h]
  rw [h]
  simp only [nja, strict_eq]
  rw [← eh, ← er]
  by_cases hh : a * (Z * Z) - X = 0
  ·rw [if_pos hh, hh]
   by_cases hr : b * (Z * Z * Z) - Y = 0
   ·rw [if_pos hr, hr]
    show njd n X.val Y.val (z + 1) k = _
    rw [← h]; exact njd_eq ⟨X, Y, Z⟩ k
   ·rw [if_neg hr]
    obtain ⟨r, hr2⟩ : ∃ r, (b * (Z * Z * Z) - Y).val = r + 1 := by
     have : (b * (Z * Z * Z) - Y).val ≠ 0 := fun e => hr (Fin.ext e)
     exact ⟨(b * (Z * Z * Z) - Y).val - 1, by omega⟩
    rw [hr2]
    rfl
  ·rw [if_neg hh]
   generalize b * (Z * Z * Z) - Y = R
   generalize a * (Z * Z) - X = H at *
   obtain ⟨t, ht⟩ : ∃ t, H.val = t + 1 := by
    have : H.val ≠ 0 := fun e => hh (Fin.ext e)
    exact ⟨H.val - 1, by omega⟩
   rw [ht]
   simp only [sb, Fin.val_mul, Fin.sub_def, Fin.val_add, h, ht]
def nb (n m a b : Nat) : Nat → Nat → Nat → Nat → Nat
 | 0, _, _, z => z
 | f + 1, x, y, z => njd n x y z fun x y z => bif Nat.beq (m / 2 ^ f % 2) 1 then nja n x y z a b fun x y z => nb n m a b f x y z else nb n m a b f x y z
theorem nb_eq (h1 : 1 < n) (m : Nat) (a b : Fin n) : ∀ (f : Nat) (r : Jp n), nb n m a.val b.val f r.X.val r.Y.val r.Z.val = (jb m ⟨a, b, 1⟩ f r).Z.val
 | 0, r => rfl
 | f + 1, r => by
  unfold nb jb
  rw [njd_eq]
  by_cases h2 : m / 2 ^ f % 2 = 1
  ·rw [if_pos h2, h2]
   show nja n _ _ _ _ _ _ = _
   rw [nja_eq h1]
   exact nb_eq h1 m a b f _
  ·rw [if_neg h2, show Nat.beq (m / 2 ^ f % 2) 1 = false from Bool.eq_false_iff.2 fun h => h2 (Nat.eq_of_beq_eq_true h)]
   exact nb_eq h1 m a b f _
end
end Go.Ec
namespace Go.Proofs
open Go.SL
theorem gP_p : gP.p = some (afv gPw) := by unfold gP own; rw [dif_pos gP_on]
theorem ordG : kP Nt.pQ gP = Ec.E.zero := by
 have hr : Ec.Rep (⟨(afv gPw).x, (afv gPw).y, 1⟩ : Ec.Jp Nt.pP) gP.p := by rw [gP_p]; exact Ec.rep_one KP _
 have h := Ec.jb_rep (c := cvP) rfl Nt.pQ hr 255 ⟨(afv gPw).x, (afv gPw).y, 1⟩ (by
  rw [show Nt.pQ / 2 ^ 255 = 1 from by decide +kernel, Ec.E.mul_one]; exact hr)
 have hz := Ec.nb_eq (n := Nt.pP) (by decide) Nt.pQ (afv gPw).x (afv gPw).y 255 ⟨(afv gPw).x, (afv gPw).y, 1⟩
 have one : (1 : Fin Nt.pP).val = 1 := by decide +kernel
 dsimp only at hz
 rw [one] at hz
 have hk : Ec.nb Nt.pP Nt.pQ (afv gPw).x.val (afv gPw).y.val 255 (afv gPw).x.val (afv gPw).y.val 1 = 0 := by decide +kernel
 rcases h with ⟨_, e⟩ | ⟨hn, _⟩
 ·exact Ec.E.ext e
 ·exact absurd (Fin.ext (hz.symm.trans hk)) hn
theorem gP_ne : gP ≠ Ec.E.zero := fun e => by have := gP_p; rw [e] at this; cases this
theorem mul_nz {k : Nat} (h0 : 0 < k) (hk : k < Nt.pQ) : kP k gP ≠ Ec.E.zero :=
 Ec.E.mul_ne (q := Nt.pQ) (fun j hj hjq => by
  have hd := Nat.gcd_dvd_right j Nt.pQ
  rcases Nt.prQ.2 _ hd with e | e
  ·exact e
  ·have := Nat.le_of_dvd hj (Nat.gcd_dvd_left j Nt.pQ)
   omega) ordG gP_ne h0 hk
theorem mul_fq (k : Nat) : kP (Nt.toF Nt.pQ k).val gP = kP k gP := Ec.E.mul_mod ordG k
end Go.Proofs
/- Shares put together give the polynomial at 0; a share fits the commitments: plainly. -/
set_option autoImplicit false
namespace Go.Ec
section
variable {n : Nat} [NeZero n]
theorem inv_uniq {d s t : Fin n} (h1 : s * d = 1) (h2 : t * d = 1) : s = t := by
 have e : s = s * (t * d) := by rw [h2]; grobner
 have e2 : s * (t * d) = (s * d) * t := by grobner
 rw [e, e2, h1]; grobner
theorem lag2 {x y s t c0 c1 : Fin n} (h1 : s * (1 * (y - x)) = 1) (h2 : t * (1 * (x - y)) = 1) : 0 + 1 * y * s * ((0 * x + c1) * x + c0) + 1 * x * t * ((0 * y + c1) * y + c0) = c0 := by
 have e : t = -s := inv_uniq (d := x - y) (by rw [← h2]; grobner) (by rw [← h1]; grobner)
 subst e
 have e2 : 0 + 1 * y * s * ((0 * x + c1) * x + c0) + 1 * x * -s * ((0 * y + c1) * y + c0) = s * (1 * (y - x)) * c0 := by clear h1 h2; grobner
 rw [e2, h1]; grobner
theorem lag3 (K : Fld n) {x y z s t r c0 c1 c2 : Fin n} (hxy : y - x ≠ 0) (hxz : z - x ≠ 0) (hyz : z - y ≠ 0) (h1 : s * (1 * (y - x) * (z - x)) = 1) (h2 : t * (1 * (x - y) * (z - y)) = 1) (h3 : r * (1 * (x - z) * (y - z)) = 1) :
 0 + 1 * y * z * s * (((0 * x + c2) * x + c1) * x + c0) + 1 * x * z * t * (((0 * y + c2) * y + c1) * y + c0) + 1 * x * y * r * (((0 * z + c2) * z + c1) * z + c0) = c0 := by
 obtain ⟨u, hu⟩ := K.inv _ hxy
 obtain ⟨v, hv⟩ := K.inv _ hxz
 obtain ⟨w, hw⟩ := K.inv _ hyz
 have es : s = u * v := inv_uniq h1 (by
  have : u * v * (1 * (y - x) * (z - x)) = ((y - x) * u) * ((z - x) * v) := by clear hu hv hw h1 h2 h3; grobner
  rw [this, hu, hv]; grobner)
 have et : t = -(u * w) := inv_uniq h2 (by
  have : -(u * w) * (1 * (x - y) * (z - y)) = ((y - x) * u) * ((z - y) * w) := by clear hu hv hw h1 h2 h3 es; grobner
  rw [this, hu, hw]; grobner)
 have er : r = v * w := inv_uniq h3 (by
  have : v * w * (1 * (x - z) * (y - z)) = ((z - x) * v) * ((z - y) * w) := by clear hu hv hw h1 h2 h3 es et; grobner
  rw [this, hv, hw]; grobner)
 subst es et er
 have e1 : u * v * ((z - y) * w) = u * v := by rw [hw]; grobner
 have e2 : u * w * ((z - x) * v) = u * w := by rw [hv]; grobner
 have e3 : v * w * ((y - x) * u) = v * w := by rw [hu]; grobner
 rw [← e1, ← e2, ← e3]
 have e : 0 + 1 * y * z * (u * v * ((z - y) * w)) * (((0 * x + c2) * x + c1) * x + c0) + 1 * x * z * -(u * w * ((z - x) * v)) * (((0 * y + c2) * y + c1) * y + c0) + 1 * x * y * (v * w * ((y - x) * u)) * (((0 * z + c2) * z + c1) * z + c0) = ((y - x) * u) * ((z - x) * v) * ((z - y) * w) * c0 := by
  clear hu hv hw h1 h2 h3 e1 e2 e3 hxy hxz hyz; grobner
 rw [e, hu, hv, hw]; grobner
end
end Go.Ec
namespace Go.Proofs
open Go.SL
theorem plc_ne {a b : Nat} (ha : a < 1000) (hb : b < 1000) (h : a ≠ b) : plc b - plc a ≠ 0 := fun e => by
 have e1 : plc b = plc a := by
  have : plc b = (plc b - plc a) + plc a := by grobner
  rw [this, e]; grobner
 have e2 := congrArg Fin.val e1
 have q : 1000 < Nt.pQ := by decide
 unfold plc at e2
 rw [toQ_val, toQ_val, Nat.mod_eq_of_lt (by omega), Nat.mod_eq_of_lt (by omega)] at e2
 exact h e2.symm
/-- The shares of a polynomial at places. -/
def shrF (c : List W4) (ps : List Nat) : List (Nat × W4) := ps.map fun a => (a, ws (evF (c.map sv) (plc a)))
theorem shrF_fst (c : List W4) (ps : List Nat) : (shrF c ps).map (·.1) = ps := by
 unfold shrF; rw [List.map_map]; exact List.map_id ps
theorem one_mul' (x : Fq) : (1 : Fq) * x = x := by grobner
theorem joinF_shr (c : List W4) (ps : List Nat) (hnd : ps.Nodup) (hl : c.length = ps.length) (h3 : ps.length ≤ 3) (h0 : 0 < ps.length) (ha : ∀ a ∈ ps, a < 1000) : joinF (shrF c ps) = sv (c.getD 0 z4) := by
 have hj : joinF (shrF c ps) = ps.foldl (fun s a => s + wgt ps a * evF (c.map sv) (plc a)) 0 := by
  unfold joinF
  rw [shrF_fst]
  unfold shrF
  rw [List.foldl_map]
  congr 1
  funext s a
  rw [sv_ws]
 rw [hj]
 clear hj
 match c, ps, hl with
 | [], [], _ => simp at h0
 | [k], [a], _ =>
  have e1 : wgt [a] a = 1 * siv 1 := by simp [wgt, upF, dnF]
  have e2 := siv_mul (x := 1) (by decide)
  show 0 + wgt [a] a * (0 * plc a + sv k) = sv k
  rw [e1]
  have : (0 : Fq) + 1 * siv 1 * (0 * plc a + sv k) = siv 1 * 1 * sv k := by clear e1 e2; grobner
  rw [this, e2, one_mul']
 | [k0, k1], [a, b], _ =>
  have hab : a ≠ b := by simp at hnd; exact hnd
  have n1 := plc_ne (ha a (by simp)) (ha b (by simp)) hab
  have n2 := plc_ne (ha b (by simp)) (ha a (by simp)) (Ne.symm hab)
  have e1 : wgt [a, b] a = 1 * plc b * siv (1 * (plc b - plc a)) := by simp [wgt, upF, dnF, Ne.symm hab]
  have e2 : wgt [a, b] b = 1 * plc a * siv (1 * (plc a - plc b)) := by simp [wgt, upF, dnF, hab]
  show 0 + wgt [a, b] a * ((0 * plc a + sv k1) * plc a + sv k0) + wgt [a, b] b * ((0 * plc b + sv k1) * plc b + sv k0) = sv k0
  rw [e1, e2]
  exact Ec.lag2 (siv_mul (by rw [one_mul']; exact n1)) (siv_mul (by rw [one_mul']; exact n2))
 | [k0, k1, k2], [a, b, d], _ =>
  simp only [List.nodup_cons, List.mem_cons, List.not_mem_nil, or_false, not_or, not_false_eq_true, List.nodup_nil, and_true] at hnd
  obtain ⟨⟨hab, had⟩, hbd⟩ := hnd
  have la := ha a (by simp)
  have lb := ha b (by simp)
  have ld := ha d (by simp)
  have n1 := plc_ne la lb hab
  have n1' := plc_ne lb la (Ne.symm hab)
  have n2 := plc_ne la ld had
  have n2' := plc_ne ld la (Ne.symm had)
  have n3 := plc_ne lb ld hbd
  have n3' := plc_ne ld lb (Ne.symm hbd)
  have e1 : wgt [a, b, d] a = 1 * plc b * plc d * siv (1 * (plc b - plc a) * (plc d - plc a)) := by simp [wgt, upF, dnF, Ne.symm hab, Ne.symm had]
  have e2 : wgt [a, b, d] b = 1 * plc a * plc d * siv (1 * (plc a - plc b) * (plc d - plc b)) := by simp [wgt, upF, dnF, hab, Ne.symm hbd]
  have e3 : wgt [a, b, d] d = 1 * plc a * plc b * siv (1 * (plc a - plc d) * (plc b - plc d)) := by simp [wgt, upF, dnF, had, hbd]
  show 0 + wgt [a, b, d] a * (((0 * plc a + sv k2) * plc a + sv k1) * plc a + sv k0) + wgt [a, b, d] b * (((0 * plc b + sv k2) * plc b + sv k1) * plc b + sv k0) + wgt [a, b, d] d * (((0 * plc d + sv k2) * plc d + sv k1) * plc d + sv k0) = sv k0
  rw [e1, e2, e3]
  exact Ec.lag3 KQ n1 n2 n3 (siv_mul (KQ.mul0 (by rw [one_mul']; exact n1) n2)) (siv_mul (KQ.mul0 (by rw [one_mul']; exact n1') n3)) (siv_mul (KQ.mul0 (by rw [one_mul']; exact n2') n3'))
 | _ :: _ :: _ :: _ :: _, _ :: _ :: _ :: _ :: _, _ => simp at h3
theorem evF_app (x a : Fq) : ∀ l : List Fq, evF (l ++ [a]) x = evF l x + x ^ l.length * a
 | [] => by
  show 0 * x + a = 0 + 1 * a
  grobner
 | b :: l => by
  show evF (l ++ [a]) x * x + b = evF l x * x + b + x ^ l.length * x * a
  rw [evF_app x a l]
  generalize evF l x = e
  generalize x ^ l.length = p
  grobner
/-- What the commitments give at a place is what the polynomial gives, times the base. -/
theorem sum_cmt (c : List W4) (hq : ∀ k ∈ c, k.n < Nt.pQ) (a : Nat) : ∀ i, i ≤ c.length → ∃ N, sumI (pwrL a c.length) (cmtL c) i = kP N gP ∧ Nt.toF Nt.pQ N = evF ((c.take i).map sv) (plc a)
 | 0, _ => ⟨0, rfl, rfl⟩
 | i + 1, h => by
  obtain ⟨N, h1, h2⟩ := sum_cmt c hq a i (by omega)
  have hi : i < c.length := by omega
  refine ⟨N + (ws (plc a ^ i)).n * (c[i]).n, ?_, ?_⟩
  ·have e1 : (pwrL a c.length).getD i z4 = ws (plc a ^ i) := by
    rw [getD_eq _ _ _ (by unfold pwrL; simp; exact hi)]; simp [pwrL]
   have e2 : (cmtL c).getD i pw0 = pw (kP (c[i]).n gP) := by
    rw [getD_eq _ _ _ (by unfold cmtL; simp; exact hi)]; simp [cmtL]
   show Ec.E.add (sumI (pwrL a c.length) (cmtL c) i) (kP ((pwrL a c.length).getD i z4).n (own ((cmtL c).getD i pw0))) = _
   rw [h1, e1, e2, own_pw]
   show Ec.E.add (Ec.E.mul N gP) (Ec.E.mul _ (Ec.E.mul _ gP)) = Ec.E.mul _ gP
   rw [← Ec.E.mul_mul, ← Ec.E.mul_add]
  ·rw [List.take_succ_eq_append_getElem hi, List.map_append, List.map_cons, List.map_nil, evF_app, ← h2, Nt.toF_add, Nt.toF_mul, List.length_map, List.length_take, Nat.min_eq_left (by omega)]
   congr 2
   exact sv_ws (plc a ^ i)
theorem shr_fits (c : List W4) (hq : ∀ k ∈ c, k.n < Nt.pQ) (a : Nat) : kP (ws (evF (c.map sv) (plc a))).n gP = sumI (pwrL a (cmtL c).length) (cmtL c) (cmtL c).length := by
 have hl : (cmtL c).length = c.length := by unfold cmtL; simp
 obtain ⟨N, h1, h2⟩ := sum_cmt c hq a c.length (Nat.le_refl _)
 rw [List.take_length] at h2
 rw [hl, h1, ws_n, ← h2]
 exact mul_fq N
end Go.Proofs
