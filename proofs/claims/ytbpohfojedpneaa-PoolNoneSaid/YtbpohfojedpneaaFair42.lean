/- The law PoolFair: its walk. -/
import Derived.Test.YtbpohfojedpneaaOnce42
set_option autoImplicit false
namespace Go.Proofs
open Go.SL
theorem rows_split (W : Int → List Rq) (j : Nat) : ∀ d, ∃ R, (List.range (j + d)).flatMap (rowL W) = (List.range j).flatMap (rowL W) ++ R
  | 0 => ⟨[], by simp⟩
  | d + 1 => by
    obtain ⟨R, h⟩ := rows_split W j d
    exact ⟨R ++ rowL W (j + d), by rw [← Nat.add_assoc, List.range_succ, List.flatMap_append, h]; simp⟩
/-- No client has two more than another one that has some left. -/
theorem fair {W : Int → List Rq} {X : Int → Int} {n : Nat} (h : PW W X n) (m : Nat) {a b : Int} (ha : 0 ≤ a ∧ a ≤ 15) (hb : 0 ≤ b ∧ b ≤ 15) (hlt : ownN ((picksL W).take m) b < (W b).length) : ownN ((picksL W).take m) a ≤ ownN ((picksL W).take m) b + 1 := by
  have h4 := h.len b
  generalize hj : ownN ((picksL W).take m) b = j at *
  obtain ⟨R, hR⟩ := rows_split W (j + 1) (4 - (j + 1))
  rw [show j + 1 + (4 - (j + 1)) = 4 by omega] at hR
  have hA := fun {c : Int} (hc : 0 ≤ c ∧ c ≤ 15) => own_rows h hc (j + 1)
  have hP : picksL W = (List.range (j + 1)).flatMap (rowL W) ++ R := hR
  generalize (List.range (j + 1)).flatMap (rowL W) = A at *
  rw [hP] at hj ⊢
  have hAb := hA hb
  have hAa := hA ha
  rcases Nat.lt_or_ge m A.length with h1 | h1
  · rw [List.take_append_of_le_length (by omega)]
    have := own_take A m a
    omega
  · exfalso
    rw [List.take_append, List.take_of_length_le h1, own_append] at hj
    omega
theorem pick_take (W : Int → List Rq) (most : Int) : pickL W most = (picksL W).take most.toNat := rfl
attribute [local irreducible] J JL QOp JOp seqQ blockQ loopQ retQ slc cel hex star pur stars Does RV Ent pAt scopeQ
attribute [local irreducible] mpC starsE poolA
theorem fair42_calls (E : World) (T : SV) (l : List Dp) (most : Int) : Does Try.prog E 5 [T.v, .int .i64 most] [slc tDp false T l] fun v L => v = .bool true ∧ L = [] := by
  have hfew := fewP_ok E T l
  refine Does.of Try.func5 rfl Try.ntmps5 rfl rfl fun F => ?_
  refine J.norm ?_
  cases hb : fewP l with
  | false =>
    rw [hb] at hfew
    refine J_seq ?_
    refine J_region ?_
    refine L_q (Q_assign rfl) rfl rfl rfl ?_
    refine JL_nil ?_
    refine seqQ_normal ?_
    refine J_seq ?_
    refine J_seq ?_
    refine J_region ?_
    refine L_q (Q_move rfl) rfl rfl rfl ?_
    refine L_o rfl rfl rfl (O_call [0] [1] hfew rfl rfl ?_)
    rintro _ _ ⟨rfl, rfl⟩
    refine JL.norm ?_
    refine L_q ((Q_not rfl).as (v' := .bool true) rfl) rfl rfl rfl ?_
    refine JL_nil ?_
    refine seqQ_normal ?_
    refine J_condT rfl ?_
    refine J_seq ?_
    refine J_region ?_
    refine L_o rfl rfl rfl (O_call [] [0,1] (awake_ok E) rfl rfl ?_)
    rintro _ _ ⟨rfl, rfl⟩
    refine JL.norm ?_
    refine L_q (Q_assign rfl) rfl rfl rfl ?_
    refine JL_nil ?_
    refine seqQ_normal ?_
    refine J_ret ?_
    refine seqQ_ret ?_
    exact retQ_ret _ [] (.cons (RV_tmp rfl) .nil) ⟨rfl, rfl⟩ (Ent.re [1] rfl)
  | true =>
  rw [hb] at hfew
  obtain ⟨hl100, hsh⟩ := fewP_text hb
  refine J_seq ?_
  refine J_region ?_
  refine L_q (Q_assign rfl) rfl rfl rfl ?_
  refine JL_nil ?_
  refine seqQ_normal ?_
  refine J_seq ?_
  refine J_seq ?_
  refine J_region ?_
  refine L_q (Q_move rfl) rfl rfl rfl ?_
  refine L_o rfl rfl rfl (O_call [0] [1] hfew rfl rfl ?_)
  rintro _ _ ⟨rfl, rfl⟩
  refine JL.norm ?_
  refine L_q ((Q_not rfl).as (v' := .bool false) rfl) rfl rfl rfl ?_
  refine JL_nil ?_
  refine seqQ_normal ?_
  refine J_condF rfl ?_
  refine J_skip ?_
  refine seqQ_normal ?_
  refine J_seq ?_
  refine J_region ?_
  refine L_o rfl rfl rfl (O_call [] [0,1] (pnew_ok E) rfl rfl ?_)
  rintro _ _ ⟨p, rfl, rfl⟩
  refine JL.norm ?_
  refine L_q (Q_assign rfl) rfl rfl rfl ?_
  refine JL_nil ?_
  refine seqQ_normal ?_
  refine J_seq ?_
  refine J_seq ?_
  refine J_region ?_
  refine L_q (Q_assign rfl) rfl rfl rfl ?_
  refine JL_nil ?_
  refine seqQ_normal ?_
  refine J_block ?_
  refine J_loop (fun i : Nat × (Int → List Rq) × (Int → Int) × Nat => i.1 ≤ l.length ∧ PW i.2.1 i.2.2.1 i.2.2.2)
    (fun i => [(0, T.v), (1, .int .i64 most), (5, .pointer (some ⟨p, 0, none⟩)), (6, .int .i64 (i.1 : Int))])
    (fun i => [poolA p i.2.1 i.2.2.1 i.2.2.2, slc tDp false T l, F]) (fun i => l.length - i.1) (0, W0, X0, 0) ⟨by simp, PW.new⟩ ⟨rfl, rfl, rfl, rfl, trivial⟩ (Ent.refl _) ?_
  rintro ⟨k, W, X, n⟩ ⟨hk, hw⟩
  dsimp only at hk hw ⊢
  refine J_seq ?_
  refine J_seq ?_
  refine J_region ?_
  refine L_q (Q_move rfl) rfl rfl rfl ?_
  refine L_q (Q_move rfl) rfl rfl rfl ?_
  refine L_q (Q_lenAt 1 rfl rfl) rfl rfl rfl ?_
  refine L_q (Q_lss rfl rfl) rfl rfl rfl ?_
  refine JL_nil ?_
  refine seqQ_normal ?_
  refine J_condD rfl (fun h => ?_) (fun h => ?_)
  · have hlt : k < l.length := by omega
    have hs := (hsh l[k] (List.getElem_mem hlt)).sh
    have hp1 := put_ok E p n W X l[k].r hw hs
    have hw2 := hw.put l[k].r
    refine J_skip ?_
    refine seqQ_normal ?_
    refine J_seq ?_
    refine J_block ?_
    refine J_region ?_
    refine L_q (Q_move rfl) rfl rfl rfl ?_
    refine L_q (Q_move rfl) rfl rfl rfl ?_
    refine L_q (Q_move rfl) rfl rfl rfl ?_
    refine L_q (Q_ixAt 1 k rfl rfl rfl rfl hlt rfl) rfl rfl rfl ?_
    refine L_q (Q_pfa rfl) rfl rfl rfl ?_
    refine L_q (Q_ldEAAt 1 k 2 (vs := rqV l[k].r) rfl rfl rfl rfl hlt (by decide) rfl) rfl rfl rfl ?_
    refine L_o rfl rfl rfl (O_call [0] [1,2] hp1 rfl rfl ?_)
    rintro _ _ ⟨rfl, rfl⟩
    refine JL.norm ?_
    refine JL_nil ?_
    refine blockQ_normal ?_
    refine seqQ_normal ?_
    refine J_region ?_
    refine L_q (Q_move rfl) rfl rfl rfl ?_
    refine L_q (Q_add rfl rfl (by first | exact IntWalk.i64_in _ (by omega) | exact IntWalk.u8_in _ (by omega) | exact IntWalk.u32_in _ (by omega) | exact IntWalk.u64_in _ (by omega) | rfl)) rfl rfl rfl ?_
    refine L_q (Q_assign rfl) rfl rfl rfl ?_
    refine JL_nil ?_
    exact loopQ_normal (k + 1, putW W X n l[k].r, X, putN W X n l[k].r) ⟨hlt, hw2⟩ (by simp only; omega) ⟨rfl, rfl, rfl, rfl, trivial⟩ (Ent.refl _)
  have hpm := pick_ok E p n W X most hw
  rw [pick_take] at hpm
  have hpk := pick_ok E p n W X 100 hw
  rw [pick_all] at hpk
  have h64 := picks_64 W
  have hrng := picks_rng hw
  have hown := fun c => own_picks (c := c) hw
  have hfair := fun a b => fair hw most.toNat (a := a) (b := b)
  generalize picksL W = all at *
  have hml : (all.take most.toNat).length = min most.toNat all.length := List.length_take
  generalize hout : all.take most.toNat = out at *
  have hget : ∀ (i : Nat) (h1 : i < out.length) (h2 : i < all.length), out[i] = all[i] := fun i h1 h2 => by subst hout; rw [List.getElem_take]
  refine J_exit ?_
  refine seqQ_exit ?_
  refine loopQ_exit ?_
  refine blockQ_hit ?_
  refine seqQ_normal ?_
  refine J_seq ?_
  refine J_region ?_
  refine L_q (Q_move rfl) rfl rfl rfl ?_
  refine L_q (Q_move rfl) rfl rfl rfl ?_
  refine L_o rfl rfl rfl (O_call [0] [1,2] hpm rfl rfl ?_)
  rintro _ _ ⟨O, rfl, rfl⟩
  refine JL.norm ?_
  refine L_q (Q_move rfl) rfl rfl rfl ?_
  refine L_o rfl rfl rfl (O_call [0] [1,2,3] hpk rfl rfl ?_)
  rintro _ _ ⟨O2, rfl, rfl⟩
  refine JL.norm ?_
  refine L_q (Q_assign rfl) rfl rfl rfl ?_
  refine L_q (Q_assign rfl) rfl rfl rfl ?_
  refine JL_nil ?_
  refine seqQ_normal ?_
  refine J_seq ?_
  refine J_region ?_
  refine L_o rfl rfl rfl (O_alloc fun b9 => ?_)
  refine L_o rfl rfl rfl (O_alloc fun b10 => ?_)
  refine JL_nil ?_
  refine seqQ_normal ?_
  refine J_seq ?_
  refine J_seq ?_
  refine J_region ?_
  refine L_q (Q_assign rfl) rfl rfl rfl ?_
  refine JL_nil ?_
  refine seqQ_normal ?_
  refine J_block ?_
  refine J_loop (fun i : Nat => i ≤ all.length) (fun i => [(1, .int .i64 most), (7, O.v), (8, O2.v), (9, .pointer (some ⟨b9, 0, none⟩)), (10, .pointer (some ⟨b10, 0, none⟩)), (11, .int .i64 (i : Int))])
    (fun i => [cel b10 (cntV (all.take i)) 28, cel b9 (cntV (out.take 0)) 28, slc tRq true O2 all, slc tRq true O out, F]) (fun i => all.length - i) 0 (Nat.zero_le _) ⟨rfl, rfl, rfl, rfl, rfl, rfl, trivial⟩ (by simp only [cntV_nil]; exact Ent.re [0, 1, 3, 4, 6] rfl) ?_
  intro i hi
  refine J_seq ?_
  refine J_seq ?_
  refine J_region ?_
  refine L_q (Q_move rfl) rfl rfl rfl ?_
  refine L_q (Q_move rfl) rfl rfl rfl ?_
  refine L_q (Q_lenAt 2 rfl rfl) rfl rfl rfl ?_
  refine L_q (Q_lss rfl rfl) rfl rfl rfl ?_
  refine JL_nil ?_
  refine seqQ_normal ?_
  refine J_condD rfl (fun h5 => ?_) (fun h5 => ?_)
  · have hil : i < all.length := by omega
    obtain ⟨c, hc, hm, hcl⟩ := hrng all[i] (List.getElem_mem hil)
    obtain ⟨j, rfl⟩ : ∃ j : Nat, c = (j : Int) := ⟨c.toNat, by omega⟩
    have hj : j < 16 := by omega
    have hset := cntV_step all i j hil hcl hj
    have hg1 := cntV_get (all.take i) j hj
    have o1 := own_take all i (j : Int)
    have o3 := ownN_le all (j : Int)
    refine J_skip ?_
    refine seqQ_normal ?_
    refine J_seq ?_
    refine J_block ?_
    refine J_seq ?_
    refine J_seq ?_
    refine J_region ?_
    refine L_q (Q_move rfl) rfl rfl rfl ?_
    refine L_q (Q_move rfl) rfl rfl rfl ?_
    refine L_q (Q_ixAt 2 i rfl rfl rfl rfl hil rfl) rfl rfl rfl ?_
    refine L_q (Q_pfa rfl) rfl rfl rfl ?_
    refine L_q (Q_ldEAt 2 i 0 (v := .int .i64 (j : Int)) rfl rfl rfl rfl hil (by decide) (by rw [← hcl]; rfl)) rfl rfl rfl ?_
    refine L_q ((Q_lss rfl rfl).as (v' := .bool false) (congrArg Value.bool (decide_eq_false (by omega)))) rfl rfl rfl ?_
    refine L_q (Q_move rfl) rfl rfl rfl ?_
    refine L_q (Q_move rfl) rfl rfl rfl ?_
    refine L_q (Q_move rfl) rfl rfl rfl ?_
    refine L_q (Q_ixAt 2 i rfl rfl rfl rfl hil rfl) rfl rfl rfl ?_
    refine L_q (Q_pfa rfl) rfl rfl rfl ?_
    refine L_q (Q_ldEAt 2 i 0 (v := .int .i64 (j : Int)) rfl rfl rfl rfl hil (by decide) (by rw [← hcl]; rfl)) rfl rfl rfl ?_
    refine L_q ((Q_gtr rfl rfl).as (v' := .bool false) (congrArg Value.bool (decide_eq_false (by omega)))) rfl rfl rfl ?_
    refine L_q (Q_pickF rfl rfl) rfl rfl rfl ?_
    refine JL_nil ?_
    refine seqQ_normal ?_
    refine J_condF rfl ?_
    refine J_skip ?_
    refine seqQ_normal ?_
    refine J_region ?_
    refine L_q (Q_move rfl) rfl rfl rfl ?_
    refine L_q (Q_move rfl) rfl rfl rfl ?_
    refine L_q (Q_ixAt 2 i rfl rfl rfl rfl hil rfl) rfl rfl rfl ?_
    refine L_q (Q_pfa rfl) rfl rfl rfl ?_
    refine L_q (Q_ldEAt 2 i 0 (v := .int .i64 (j : Int)) rfl rfl rfl rfl hil (by decide) (by rw [← hcl]; rfl)) rfl rfl rfl ?_
    refine L_q (Q_ia (sz := 1) j rfl rfl rfl hj (show 0 + j * 1 = j by omega)) rfl rfl rfl ?_
    refine L_q (Q_ld 0 rfl rfl rfl hg1) rfl rfl rfl ?_
    refine L_q (Q_add rfl rfl (by first | exact IntWalk.i64_in _ (by omega) | exact IntWalk.u8_in _ (by omega) | exact IntWalk.u32_in _ (by omega) | exact IntWalk.u64_in _ (by omega) | rfl)) rfl rfl rfl ?_
    refine L_q (Q_ia (sz := 1) j rfl rfl rfl hj (show 0 + j * 1 = j by omega)) rfl rfl rfl ?_
    refine L_s rfl rfl (O_st1 0 rfl rfl rfl rfl rfl ?_)
    refine JL.norm ?_
    refine JL_nil ?_
    refine blockQ_normal ?_
    refine seqQ_normal ?_
    refine J_region ?_
    refine L_q (Q_move rfl) rfl rfl rfl ?_
    refine L_q (Q_add rfl rfl (by first | exact IntWalk.i64_in _ (by omega) | exact IntWalk.u8_in _ (by omega) | exact IntWalk.u32_in _ (by omega) | exact IntWalk.u64_in _ (by omega) | rfl)) rfl rfl rfl ?_
    refine L_q (Q_assign rfl) rfl rfl rfl ?_
    refine JL_nil ?_
    exact loopQ_normal (i + 1) hil (by omega) ⟨rfl, rfl, rfl, rfl, rfl, rfl, trivial⟩ (Ent.refl _)
  obtain rfl : i = all.length := by omega
  rw [List.take_length]
  refine J_exit ?_
  refine seqQ_exit ?_
  refine loopQ_exit ?_
  refine blockQ_hit ?_
  refine seqQ_normal ?_
  refine J_seq ?_
  refine J_seq ?_
  refine J_region ?_
  refine L_q (Q_assign rfl) rfl rfl rfl ?_
  refine JL_nil ?_
  refine seqQ_normal ?_
  refine J_block ?_
  refine J_loop (fun i : Nat => i ≤ out.length) (fun i => [(1, .int .i64 most), (7, O.v), (8, O2.v), (9, .pointer (some ⟨b9, 0, none⟩)), (10, .pointer (some ⟨b10, 0, none⟩)), (12, .int .i64 (i : Int))])
    (fun i => [cel b10 (cntV all) 28, cel b9 (cntV (out.take i)) 28, slc tRq true O2 all, slc tRq true O out, F]) (fun i => out.length - i) 0 (Nat.zero_le _) ⟨rfl, rfl, rfl, rfl, rfl, rfl, trivial⟩ (Ent.refl _) ?_
  intro i hi
  refine J_seq ?_
  refine J_seq ?_
  refine J_region ?_
  refine L_q (Q_move rfl) rfl rfl rfl ?_
  refine L_q (Q_move rfl) rfl rfl rfl ?_
  refine L_q (Q_lenAt 3 rfl rfl) rfl rfl rfl ?_
  refine L_q (Q_lss rfl rfl) rfl rfl rfl ?_
  refine JL_nil ?_
  refine seqQ_normal ?_
  refine J_condD rfl (fun h6 => ?_) (fun h6 => ?_)
  · have hio : i < out.length := by omega
    have hil : i < all.length := by omega
    have hoi := hget i hio hil
    obtain ⟨c, hc, hm, hcl⟩ := hrng all[i] (List.getElem_mem hil)
    rw [← hoi] at hcl
    obtain ⟨j, rfl⟩ : ∃ j : Nat, c = (j : Int) := ⟨c.toNat, by omega⟩
    have hj : j < 16 := by omega
    have hset := cntV_step out i j hio hcl hj
    have hg1 := cntV_get (out.take i) j hj
    have o1 := own_take out i (j : Int)
    have o3 := ownN_le out (j : Int)
    have heq : decide (¬ decide (out[i] = all[i]) = true) = false := by rw [decide_eq_true hoi]; rfl
    refine J_skip ?_
    refine seqQ_normal ?_
    refine J_seq ?_
    refine J_block ?_
    refine J_seq ?_
    refine J_seq ?_
    refine J_drawH [2,3] [0, 1, 2, 3, 4, 5, 6, 7, 8, 9, 10, 11, 12, 13, 14] (.quiet 0 (.quiet 1 (.quiet 2 (.quiet 3 (.quiet 4 (.quiet 5 (.quiet 6 (.quiet 7 (.quiet 8 (.quiet 9 (.quiet 10 (.quiet 11 (.quiet 12 (.quiet 13 (.quiet 14 .done))))))))))))))) Try.mixed (by kernel_rfl) (by kernel_rfl) (by repeat (first | exact retQ_noP | refine seqQ_noP ?_ | refine blockQ_noP ?_ | refine loopQ_noP ?_ | refine scopeQ_noP ?_)) ?_
    refine S_q (Ent.re [2,3] rfl) rfl (Q_move rfl) rfl rfl rfl ?_
    refine S_q (Ent.re [2,3] rfl) rfl (Q_move rfl) rfl rfl rfl ?_
    refine S_q (Ent.re [2,3] rfl) rfl (Q_lenAt 0 rfl rfl) rfl rfl rfl ?_
    refine S_q (Ent.re [2,3] rfl) rfl ((Q_geq rfl rfl).as (v' := .bool false) (congrArg Value.bool (decide_eq_false (by omega)))) rfl rfl rfl ?_
    refine S_q (Ent.re [2,3] rfl) rfl (Q_move rfl) rfl rfl rfl ?_
    refine S_q (Ent.re [2,3] rfl) rfl (Q_move rfl) rfl rfl rfl ?_
    refine S_q (Ent.re [2,3] rfl) rfl (Q_move rfl) rfl rfl rfl ?_
    refine S_q (Ent.re [2,3] rfl) rfl (Q_ixAt 1 i rfl rfl rfl rfl hio rfl) rfl rfl rfl ?_
    refine S_q (Ent.re [2,3] rfl) rfl (Q_ldEAAt 1 i 0 (vs := rqV out[i]) rfl rfl rfl rfl hio (by decide) rfl) rfl rfl rfl ?_
    refine S_q (Ent.re [2,3] rfl) rfl (Q_move rfl) rfl rfl rfl ?_
    refine S_q (Ent.re [2,3] rfl) rfl (Q_move rfl) rfl rfl rfl ?_
    refine S_q (Ent.re [2,3] rfl) rfl (Q_ixAt 0 i rfl rfl rfl rfl hil rfl) rfl rfl rfl ?_
    refine S_q (Ent.re [2,3] rfl) rfl (Q_ldEAAt 0 i 0 (vs := rqV all[i]) rfl rfl rfl rfl hil (by decide) rfl) rfl rfl rfl ?_
    refine S_q (Ent.re [2,3] rfl) rfl ((Q_gneq eqgR (eqvR out[i] all[i]) rfl rfl).as (v' := .bool false) (by rw [decide_eq_true hoi]; rfl)) rfl rfl rfl ?_
    refine S_q (Ent.re [2,3] rfl) rfl (Q_pickF rfl rfl) rfl rfl rfl ?_
    refine S_nil ?_
    refine seqQ_normal ?_
    refine J_condF rfl ?_
    refine J_skip ?_
    refine seqQ_normal ?_
    refine J_region ?_
    refine L_q (Q_move rfl) rfl rfl rfl ?_
    refine L_q (Q_move rfl) rfl rfl rfl ?_
    refine L_q (Q_ixAt 3 i rfl rfl rfl rfl hio rfl) rfl rfl rfl ?_
    refine L_q (Q_pfa rfl) rfl rfl rfl ?_
    refine L_q (Q_ldEAt 3 i 0 (v := .int .i64 (j : Int)) rfl rfl rfl rfl hio (by decide) (by rw [← hcl]; rfl)) rfl rfl rfl ?_
    refine L_q (Q_ia (sz := 1) j rfl rfl rfl hj (show 0 + j * 1 = j by omega)) rfl rfl rfl ?_
    refine L_q (Q_ld 1 rfl rfl rfl hg1) rfl rfl rfl ?_
    refine L_q (Q_add rfl rfl (by first | exact IntWalk.i64_in _ (by omega) | exact IntWalk.u8_in _ (by omega) | exact IntWalk.u32_in _ (by omega) | exact IntWalk.u64_in _ (by omega) | rfl)) rfl rfl rfl ?_
    refine L_q (Q_ia (sz := 1) j rfl rfl rfl hj (show 0 + j * 1 = j by omega)) rfl rfl rfl ?_
    refine L_s rfl rfl (O_st1 1 rfl rfl rfl rfl rfl ?_)
    refine JL.norm ?_
    refine JL_nil ?_
    refine blockQ_normal ?_
    refine seqQ_normal ?_
    refine J_region ?_
    refine L_q (Q_move rfl) rfl rfl rfl ?_
    refine L_q (Q_add rfl rfl (by first | exact IntWalk.i64_in _ (by omega) | exact IntWalk.u8_in _ (by omega) | exact IntWalk.u32_in _ (by omega) | exact IntWalk.u64_in _ (by omega) | rfl)) rfl rfl rfl ?_
    refine L_q (Q_assign rfl) rfl rfl rfl ?_
    refine JL_nil ?_
    exact loopQ_normal (i + 1) hio (by omega) ⟨rfl, rfl, rfl, rfl, rfl, rfl, trivial⟩ (Ent.refl _)
  obtain rfl : i = out.length := by omega
  rw [List.take_length]
  refine J_exit ?_
  refine seqQ_exit ?_
  refine loopQ_exit ?_
  refine blockQ_hit ?_
  refine seqQ_normal ?_
  refine J_seq ?_
  refine J_seq ?_
  refine J_region ?_
  refine L_q (Q_assign rfl) rfl rfl rfl ?_
  refine JL_nil ?_
  refine seqQ_normal ?_
  refine J_block ?_
  refine J_loop (fun a : Nat => a ≤ 16) (fun a => [(1, .int .i64 most), (7, O.v), (8, O2.v), (9, .pointer (some ⟨b9, 0, none⟩)), (10, .pointer (some ⟨b10, 0, none⟩)), (13, .int .i64 (a : Int))])
    (fun _ => [cel b10 (cntV all) 28, cel b9 (cntV out) 28, slc tRq true O2 all, slc tRq true O out, F]) (fun a => 16 - a) 0 (by decide) ⟨rfl, rfl, rfl, rfl, rfl, rfl, trivial⟩ (Ent.refl _) ?_
  intro a ha
  refine J_seq ?_
  refine J_seq ?_
  refine J_region ?_
  refine L_q (Q_move rfl) rfl rfl rfl ?_
  refine L_q (Q_leq rfl rfl) rfl rfl rfl ?_
  refine JL_nil ?_
  refine seqQ_normal ?_
  refine J_condD rfl (fun h7 => ?_) (fun h7 => ?_)
  · have ha16 : a < 16 := by omega
    refine J_skip ?_
    refine seqQ_normal ?_
    refine J_seq ?_
    refine J_block ?_
    refine J_seq ?_
    refine J_region ?_
    refine L_q (Q_assign rfl) rfl rfl rfl ?_
    refine JL_nil ?_
    refine seqQ_normal ?_
    refine J_block ?_
    refine J_loop (fun b : Nat => b ≤ 16) (fun b => [(1, .int .i64 most), (7, O.v), (8, O2.v), (9, .pointer (some ⟨b9, 0, none⟩)), (10, .pointer (some ⟨b10, 0, none⟩)), (13, .int .i64 (a : Int)), (14, .int .i64 (b : Int))])
      (fun _ => [cel b10 (cntV all) 28, cel b9 (cntV out) 28, slc tRq true O2 all, slc tRq true O out, F]) (fun b => 16 - b) 0 (by decide) ⟨rfl, rfl, rfl, rfl, rfl, rfl, rfl, trivial⟩ (Ent.refl _) ?_
    intro b hb16
    refine J_seq ?_
    refine J_seq ?_
    refine J_region ?_
    refine L_q (Q_move rfl) rfl rfl rfl ?_
    refine L_q (Q_leq rfl rfl) rfl rfl rfl ?_
    refine JL_nil ?_
    refine seqQ_normal ?_
    refine J_condD rfl (fun h8 => ?_) (fun h8 => ?_)
    · have hb' : b < 16 := by omega
      have ga := cntV_get out a ha16
      have gb := cntV_get out b hb'
      have gc := cntV_get all b hb'
      have hf := hfair (a : Int) (b : Int) (by omega) (by omega)
      have ho := hown (b : Int) (by omega)
      have l1 := ownN_le out (a : Int)
      have l2 := ownN_le out (b : Int)
      generalize ownN out (a : Int) = na at *
      generalize ownN out (b : Int) = nb at *
      generalize ownN all (b : Int) = nc at *
      by_cases h9 : nb + 1 < na
      · refine J_skip ?_
        refine seqQ_normal ?_
        refine J_seq ?_
        refine J_block ?_
        refine J_seq ?_
        refine J_drawH [0,1] [0, 1, 2, 3, 4, 5, 6, 7, 8, 9, 10, 11, 12, 13, 14, 15, 16] (.quiet 0 (.quiet 1 (.quiet 2 (.quiet 3 (.quiet 4 (.quiet 5 (.quiet 6 (.quiet 7 (.quiet 8 (.quiet 9 (.quiet 10 (.quiet 11 (.quiet 12 (.quiet 13 (.quiet 14 (.quiet 15 (.quiet 16 .done))))))))))))))))) Try.mixed (by kernel_rfl) (by kernel_rfl) (by repeat (first | exact retQ_noP | refine seqQ_noP ?_ | refine blockQ_noP ?_ | refine loopQ_noP ?_ | refine scopeQ_noP ?_)) ?_
        refine S_q (Ent.re [0,1] rfl) rfl (Q_move rfl) rfl rfl rfl ?_
        refine S_q (Ent.re [0,1] rfl) rfl (Q_ia (sz := 1) a rfl rfl rfl ha16 (show 0 + a * 1 = a by omega)) rfl rfl rfl ?_
        refine S_q (Ent.re [0,1] rfl) rfl (Q_ld 1 rfl rfl rfl ga) rfl rfl rfl ?_
        refine S_q (Ent.re [0,1] rfl) rfl (Q_move rfl) rfl rfl rfl ?_
        refine S_q (Ent.re [0,1] rfl) rfl (Q_ia (sz := 1) b rfl rfl rfl hb' (show 0 + b * 1 = b by omega)) rfl rfl rfl ?_
        refine S_q (Ent.re [0,1] rfl) rfl (Q_ld 1 rfl rfl rfl gb) rfl rfl rfl ?_
        refine S_q (Ent.re [0,1] rfl) rfl (Q_add rfl rfl (by first | exact IntWalk.i64_in _ (by omega) | exact IntWalk.u8_in _ (by omega) | exact IntWalk.u32_in _ (by omega) | exact IntWalk.u64_in _ (by omega) | rfl)) rfl rfl rfl ?_
        refine S_q (Ent.re [0,1] rfl) rfl ((Q_gtr rfl rfl).as (v' := .bool true) (congrArg Value.bool (decide_eq_true (by omega)))) rfl rfl rfl ?_
        refine S_q (Ent.re [0,1] rfl) rfl (Q_move rfl) rfl rfl rfl ?_
        refine S_q (Ent.re [0,1] rfl) rfl (Q_move rfl) rfl rfl rfl ?_
        refine S_q (Ent.re [0,1] rfl) rfl (Q_ia (sz := 1) b rfl rfl rfl hb' (show 0 + b * 1 = b by omega)) rfl rfl rfl ?_
        refine S_q (Ent.re [0,1] rfl) rfl (Q_ld 1 rfl rfl rfl gb) rfl rfl rfl ?_
        refine S_q (Ent.re [0,1] rfl) rfl (Q_move rfl) rfl rfl rfl ?_
        refine S_q (Ent.re [0,1] rfl) rfl (Q_ia (sz := 1) b rfl rfl rfl hb' (show 0 + b * 1 = b by omega)) rfl rfl rfl ?_
        refine S_q (Ent.re [0,1] rfl) rfl (Q_ld 0 rfl rfl rfl gc) rfl rfl rfl ?_
        refine S_q (Ent.re [0,1] rfl) rfl ((Q_lss rfl rfl).as (v' := .bool false) (congrArg Value.bool (decide_eq_false (by omega)))) rfl rfl rfl ?_
        refine S_q (Ent.re [0,1] rfl) rfl (Q_pickT rfl rfl) rfl rfl rfl ?_
        refine S_nil ?_
        refine seqQ_normal ?_
        refine J_condF rfl ?_
        refine J_skip ?_
        refine blockQ_normal ?_
        refine seqQ_normal ?_
        refine J_region ?_
        refine L_q (Q_move rfl) rfl rfl rfl ?_
        refine L_q (Q_add rfl rfl (by first | exact IntWalk.i64_in _ (by omega) | exact IntWalk.u8_in _ (by omega) | exact IntWalk.u32_in _ (by omega) | exact IntWalk.u64_in _ (by omega) | rfl)) rfl rfl rfl ?_
        refine L_q (Q_assign rfl) rfl rfl rfl ?_
        refine JL_nil ?_
        exact loopQ_normal (b + 1) hb' (by omega) ⟨rfl, rfl, rfl, rfl, rfl, rfl, rfl, trivial⟩ (Ent.refl _)
      · refine J_skip ?_
        refine seqQ_normal ?_
        refine J_seq ?_
        refine J_block ?_
        refine J_seq ?_
        refine J_drawH [0,1] [0, 1, 2, 3, 4, 5, 6, 7, 8, 9, 10, 11, 12, 13, 14, 15, 16] (.quiet 0 (.quiet 1 (.quiet 2 (.quiet 3 (.quiet 4 (.quiet 5 (.quiet 6 (.quiet 7 (.quiet 8 (.quiet 9 (.quiet 10 (.quiet 11 (.quiet 12 (.quiet 13 (.quiet 14 (.quiet 15 (.quiet 16 .done))))))))))))))))) Try.mixed (by kernel_rfl) (by kernel_rfl) (by repeat (first | exact retQ_noP | refine seqQ_noP ?_ | refine blockQ_noP ?_ | refine loopQ_noP ?_ | refine scopeQ_noP ?_)) ?_
        refine S_q (Ent.re [0,1] rfl) rfl (Q_move rfl) rfl rfl rfl ?_
        refine S_q (Ent.re [0,1] rfl) rfl (Q_ia (sz := 1) a rfl rfl rfl ha16 (show 0 + a * 1 = a by omega)) rfl rfl rfl ?_
        refine S_q (Ent.re [0,1] rfl) rfl (Q_ld 1 rfl rfl rfl ga) rfl rfl rfl ?_
        refine S_q (Ent.re [0,1] rfl) rfl (Q_move rfl) rfl rfl rfl ?_
        refine S_q (Ent.re [0,1] rfl) rfl (Q_ia (sz := 1) b rfl rfl rfl hb' (show 0 + b * 1 = b by omega)) rfl rfl rfl ?_
        refine S_q (Ent.re [0,1] rfl) rfl (Q_ld 1 rfl rfl rfl gb) rfl rfl rfl ?_
        refine S_q (Ent.re [0,1] rfl) rfl (Q_add rfl rfl (by first | exact IntWalk.i64_in _ (by omega) | exact IntWalk.u8_in _ (by omega) | exact IntWalk.u32_in _ (by omega) | exact IntWalk.u64_in _ (by omega) | rfl)) rfl rfl rfl ?_
        refine S_q (Ent.re [0,1] rfl) rfl ((Q_gtr rfl rfl).as (v' := .bool false) (congrArg Value.bool (decide_eq_false (by omega)))) rfl rfl rfl ?_
        refine S_q (Ent.re [0,1] rfl) rfl (Q_move rfl) rfl rfl rfl ?_
        refine S_n (Ent.re [0,1] rfl) rfl rfl rfl rfl ?_
        refine S_n (Ent.re [0,1] rfl) rfl rfl rfl rfl ?_
        refine S_n (Ent.re [0,1] rfl) rfl rfl rfl rfl ?_
        refine S_n (Ent.re [0,1] rfl) rfl rfl rfl rfl ?_
        refine S_n (Ent.re [0,1] rfl) rfl rfl rfl rfl ?_
        refine S_n (Ent.re [0,1] rfl) rfl rfl rfl rfl ?_
        refine S_n (Ent.re [0,1] rfl) rfl rfl rfl rfl ?_
        refine S_q (Ent.re [0,1] rfl) rfl (Q_pickF rfl rfl) rfl rfl rfl ?_
        refine S_nil ?_
        refine seqQ_normal ?_
        refine J_condF rfl ?_
        refine J_skip ?_
        refine blockQ_normal ?_
        refine seqQ_normal ?_
        refine J_region ?_
        refine L_q (Q_move rfl) rfl rfl rfl ?_
        refine L_q (Q_add rfl rfl (by first | exact IntWalk.i64_in _ (by omega) | exact IntWalk.u8_in _ (by omega) | exact IntWalk.u32_in _ (by omega) | exact IntWalk.u64_in _ (by omega) | rfl)) rfl rfl rfl ?_
        refine L_q (Q_assign rfl) rfl rfl rfl ?_
        refine JL_nil ?_
        exact loopQ_normal (b + 1) hb' (by omega) ⟨rfl, rfl, rfl, rfl, rfl, rfl, rfl, trivial⟩ (Ent.refl _)
    · refine J_exit ?_
      refine seqQ_exit ?_
      refine loopQ_exit ?_
      refine blockQ_hit ?_
      refine blockQ_normal ?_
      refine seqQ_normal ?_
      refine J_region ?_
      refine L_q (Q_move rfl) rfl rfl rfl ?_
      refine L_q (Q_add rfl rfl (by first | exact IntWalk.i64_in _ (by omega) | exact IntWalk.u8_in _ (by omega) | exact IntWalk.u32_in _ (by omega) | exact IntWalk.u64_in _ (by omega) | rfl)) rfl rfl rfl ?_
      refine L_q (Q_assign rfl) rfl rfl rfl ?_
      refine JL_nil ?_
      exact loopQ_normal (a + 1) ha16 (by omega) ⟨rfl, rfl, rfl, rfl, rfl, rfl, trivial⟩ (Ent.refl _)
  · refine J_exit ?_
    refine seqQ_exit ?_
    refine loopQ_exit ?_
    refine blockQ_hit ?_
    refine seqQ_normal ?_
    refine J_seq ?_
    refine J_region ?_
    refine L_q (Q_move rfl) rfl rfl rfl ?_
    refine L_q (Q_lenAt 3 rfl rfl) rfl rfl rfl ?_
    refine L_q (Q_move rfl) rfl rfl rfl ?_
    refine L_q (Q_max2 rfl rfl) rfl rfl rfl ?_
    refine L_q (Q_move rfl) rfl rfl rfl ?_
    refine L_q (Q_lenAt 2 rfl rfl) rfl rfl rfl ?_
    refine L_q (Q_min2 rfl rfl) rfl rfl rfl ?_
    refine L_q ((Q_eql rfl rfl).as (v' := .bool true) (congrArg Value.bool (decide_eq_true (by omega)))) rfl rfl rfl ?_
    refine L_q (Q_move rfl) rfl rfl rfl ?_
    refine L_o rfl rfl rfl (O_call [] [0,1,2,3,4] (awake_ok E) rfl rfl ?_)
    rintro _ _ ⟨rfl, rfl⟩
    refine JL.norm ?_
    refine L_q (Q_pickT rfl rfl) rfl rfl rfl ?_
    refine L_q (Q_assign rfl) rfl rfl rfl ?_
    refine JL_nil ?_
    refine seqQ_normal ?_
    refine J_ret ?_
    exact retQ_ret _ [] (.cons (RV_tmp rfl) .nil) ⟨rfl, rfl⟩ (Ent.re [4] rfl)
end Go.Proofs
