/- The laws TreeClone, TreeRight: their walks. -/
import Derived.Test.YtihlnjafeocbnaaRanges36
set_option autoImplicit false
namespace Go.Proofs
open Go.SL
structure Two where
  k : Nat
  S : SV
  U : SV
  x : List Kv
  y : List Kv
  C : HProp
theorem depth_4 {D n : Nat} (hn : n ≤ 300) (h : 2 * 4 ^ (D - 1) ≤ n + 1) : D ≤ 5 := by
  rcases Nat.lt_or_ge D 6 with hd | hd
  · omega
  · have : 4 ^ 5 ≤ 4 ^ (D - 1) := Nat.pow_le_pow_right (by decide) (by omega)
    have h2 : (4 : Nat) ^ 5 = 1024 := by decide
    omega
theorem up_at1 {E w : World} {A : HProp} {p : Nat} {l : List Kv} {L : List HProp} (h : Sat E w (A :: treeA p l :: L)) : Up l := treeA_up (Sat.swap2 h)
theorem up_at2 {E w : World} {A B : HProp} {p : Nat} {l : List Kv} {L : List HProp} (h : Sat E w (A :: B :: treeA p l :: L)) : Up l := up_at1 (Sat.two (A := [A]) h)
attribute [local irreducible] J JL QOp JOp seqQ blockQ loopQ retQ slc cel hex star pur stars Does RV Ent pAt scopeQ
attribute [local irreducible] nodeA nodeX treeA
theorem tclone36_ok (E : World) (T T2 : SV) (l l2 : List Dd) : Does Try.prog E 6 [T.v, T2.v] [slc tDd false T l, slc tDd false T2 l2] fun v L => v = .bool true ∧ L = [] := by
  refine Does.of Try.func6 rfl Try.ntmps6 rfl rfl fun F => ?_
  refine J.norm ?_
  refine J_seq ?_
  refine J_region ?_
  refine L_q (Q_assign rfl) rfl rfl rfl ?_
  refine JL_nil ?_
  refine seqQ_normal ?_
  refine J_seq ?_
  refine J_seq ?_
  refine J.mid (fun ρ' L' => ∃ b : Bool, (b = false → fewK l = true ∧ fewK l2 = true) ∧ envSub [(0, T.v), (1, T2.v), (18, .bool b)] ρ' ∧ Ent L' [slc tDd false T l, slc tDd false T2 l2, F]) ?_ ?_
  · have hfw := fewK_ok E T l
    have hfw2 := fewK_ok E T2 l2
    cases hf : fewK l with
    | false =>
      rw [hf] at hfw
      refine J_region ?_
      refine L_q (Q_move rfl) rfl rfl rfl ?_
      refine L_o rfl rfl rfl (O_call [0] [1,2] hfw rfl rfl ?_)
      rintro _ _ ⟨rfl, rfl⟩
      refine JL.norm ?_
      refine L_q ((Q_not rfl).as (v' := .bool true) rfl) rfl rfl rfl ?_
      refine L_q (Q_move rfl) rfl rfl rfl ?_
      refine L_n rfl rfl rfl ?_
      refine L_n rfl rfl rfl ?_
      refine L_n rfl rfl rfl ?_
      refine L_q (Q_pickT rfl rfl) rfl rfl rfl ?_
      refine JL_nil ?_
      exact ⟨rfl, true, fun h => Bool.noConfusion h, ⟨rfl, rfl, rfl, trivial⟩, Ent.refl _⟩
    | true =>
      rw [hf] at hfw
      cases hf2 : fewK l2 with
      | false =>
        rw [hf2] at hfw2
        refine J_region ?_
        refine L_q (Q_move rfl) rfl rfl rfl ?_
        refine L_o rfl rfl rfl (O_call [0] [1,2] hfw rfl rfl ?_)
        rintro _ _ ⟨rfl, rfl⟩
        refine JL.norm ?_
        refine L_q ((Q_not rfl).as (v' := .bool false) rfl) rfl rfl rfl ?_
        refine L_q (Q_move rfl) rfl rfl rfl ?_
        refine L_q (Q_move rfl) rfl rfl rfl ?_
        refine L_o rfl rfl rfl (O_call [1] [0,2] hfw2 rfl rfl ?_)
        rintro _ _ ⟨rfl, rfl⟩
        refine JL.norm ?_
        refine L_q ((Q_not rfl).as (v' := .bool true) rfl) rfl rfl rfl ?_
        refine L_q (Q_pickF rfl rfl) rfl rfl rfl ?_
        refine JL_nil ?_
        exact ⟨rfl, true, fun h => Bool.noConfusion h, ⟨rfl, rfl, rfl, trivial⟩, Ent.re [1, 0, 2] rfl⟩
      | true =>
        rw [hf2] at hfw2
        refine J_region ?_
        refine L_q (Q_move rfl) rfl rfl rfl ?_
        refine L_o rfl rfl rfl (O_call [0] [1,2] hfw rfl rfl ?_)
        rintro _ _ ⟨rfl, rfl⟩
        refine JL.norm ?_
        refine L_q ((Q_not rfl).as (v' := .bool false) rfl) rfl rfl rfl ?_
        refine L_q (Q_move rfl) rfl rfl rfl ?_
        refine L_q (Q_move rfl) rfl rfl rfl ?_
        refine L_o rfl rfl rfl (O_call [1] [0,2] hfw2 rfl rfl ?_)
        rintro _ _ ⟨rfl, rfl⟩
        refine JL.norm ?_
        refine L_q ((Q_not rfl).as (v' := .bool false) rfl) rfl rfl rfl ?_
        refine L_q (Q_pickF rfl rfl) rfl rfl rfl ?_
        refine JL_nil ?_
        exact ⟨rfl, false, fun _ => ⟨rfl, rfl⟩, ⟨rfl, rfl, rfl, trivial⟩, Ent.re [1, 0, 2] rfl⟩
  rintro ρ1 L1 ⟨b, hb, hsub, hent⟩
  refine J.sub hsub ?_
  refine J.ent hent ?_
  clear hsub hent
  cases b with
  | true =>
    refine J_condT rfl ?_
    refine J_seq ?_
    refine J_region ?_
    refine L_o rfl rfl rfl (O_call [] [0,1,2] (awake36_ok E) rfl rfl ?_)
    rintro _ _ ⟨rfl, rfl⟩
    refine JL.norm ?_
    refine L_q (Q_assign rfl) rfl rfl rfl ?_
    refine JL_nil ?_
    refine seqQ_normal ?_
    refine J_ret ?_
    refine seqQ_ret ?_
    exact retQ_ret _ [] (.cons (RV_tmp rfl) .nil) ⟨rfl, rfl⟩ (Ent.re [2] rfl)
  | false =>
    obtain ⟨h300, _⟩ := fewK_text (hb rfl).1
    obtain ⟨h300', _⟩ := fewK_text (hb rfl).2
    refine J_condF rfl ?_
    refine J_skip ?_
    refine seqQ_normal ?_
    refine J_seq ?_
    refine J_region ?_
    refine L_o rfl rfl rfl (O_call [] [0,1,2] (tnew_ok E) rfl rfl ?_)
    rintro _ _ ⟨p, rfl, rfl⟩
    refine JL.norm ?_
    refine L_q (Q_assign rfl) rfl rfl rfl ?_
    refine JL_nil ?_
    refine seqQ_normal ?_
    refine J_seq ?_
    refine J_region ?_
    refine L_q (Q_assign rfl) rfl rfl rfl ?_
    refine JL_nil ?_
    refine seqQ_normal ?_
    refine J_seq ?_
    refine J_seq ?_
    refine J_region ?_
    refine L_q (Q_assign rfl) rfl rfl rfl ?_
    refine JL_nil ?_
    refine seqQ_normal ?_
    refine J_block ?_
    refine J.ent Ent.stars_nil ?_
    refine J.cutB (fun z ρ' L' => z = .normal ∧ ∃ (S : SV) (C : HProp), Rdy E C S (runL [] l) ∧ envSub [(1, T2.v), (5, .pointer (some ⟨p, 0, none⟩)), (6, S.v)] ρ' ∧ Ent L' [slc tDd false T2 l2, treeA p (runL [] l), C, F]) ?_ ?_
    · refine J_loop (fun i : Nat × SV × HProp => i.1 ≤ l.length ∧ Rdy E i.2.2 i.2.1 (runL [] (l.take i.1))) (fun i => [(0, T.v), (1, T2.v), (5, .pointer (some ⟨p, 0, none⟩)), (6, i.2.1.v), (7, .int .i64 (i.1 : Int))]) (fun i => [slc tDd false T l, treeA p (runL [] (l.take i.1)), i.2.2, slc tDd false T2 l2, F]) (fun i => l.length - i.1) (0, SV.nil, stars []) ⟨Nat.zero_le _, by rw [List.take_zero]; exact Rdy.nil⟩ ⟨rfl, rfl, rfl, rfl, rfl, trivial⟩ (Ent.re [2, 1, 0, 3, 4] rfl) ?_
      rintro ⟨k, S, C⟩ ⟨hk, hR⟩
      dsimp only at hk hR ⊢
      have hlen := runL_300 (k := k) h300
      refine J_seq ?_
      refine J_seq ?_
      refine J_region ?_
      refine L_q (Q_move rfl) rfl rfl rfl ?_
      refine L_q (Q_move rfl) rfl rfl rfl ?_
      refine L_q (Q_lenAt 0 rfl rfl) rfl rfl rfl ?_
      refine L_q (Q_lss rfl rfl) rfl rfl rfl ?_
      refine JL_nil ?_
      refine seqQ_normal ?_
      refine J_condD rfl (fun h => ?_) (fun h => ?_)
      · have hlt : k < l.length := by omega
        have hst := take_runL hlt
        generalize runL [] (l.take k) = m at *
        refine J_skip ?_
        refine seqQ_normal ?_
        refine J_seq ?_
        refine J_block ?_
        refine J_region ?_
        refine L_q (Q_move rfl) rfl rfl rfl ?_
        refine L_q (Q_move rfl) rfl rfl rfl ?_
        refine L_q (Q_move rfl) rfl rfl rfl ?_
        refine L_q (Q_move rfl) rfl rfl rfl ?_
        refine L_q (Q_ixAt 0 k rfl rfl rfl rfl hlt rfl) rfl rfl rfl ?_
        refine L_q (Q_ldEAAt 0 k 0 (vs := ddV l[k]) rfl rfl rfl rfl hlt (by decide) rfl) rfl rfl rfl ?_
        refine L_o rfl rfl rfl (O_call [1,2] [0,3,4] (do_ok E p m l[k] C S hR (by omega)) rfl rfl ?_)
        rintro _ _ ⟨S2, D, hR2, rfl, rfl⟩
        refine JL.norm ?_
        refine L_q (Q_move rfl) rfl rfl rfl ?_
        refine L_q (Q_extract (v := S2.v) rfl rfl) rfl rfl rfl ?_
        refine L_q (Q_extract (v := .bool true) rfl rfl) rfl rfl rfl ?_
        refine L_q (Q_assign rfl) rfl rfl rfl ?_
        refine JL_nil ?_
        refine blockQ_normal ?_
        refine seqQ_normal ?_
        refine J.ent ((Ent.re [1, 2, 0, 3, 4, 5] rfl).trans Ent.star_in) ?_
        refine J_region ?_
        refine L_q (Q_move rfl) rfl rfl rfl ?_
        refine L_q (Q_add rfl rfl (by first | exact IntWalk.i64_in _ (by omega) | exact IntWalk.u8_in _ (by omega) | exact IntWalk.u32_in _ (by omega) | exact IntWalk.u64_in _ (by omega) | rfl)) rfl rfl rfl ?_
        refine L_q (Q_assign rfl) rfl rfl rfl ?_
        refine JL_nil ?_
        refine loopQ_normal (k + 1, S2, star C D) ⟨hlt, by show Rdy E (star C D) S2 (runL [] (l.take (k + 1))); rw [hst]; exact hR2⟩ (by show l.length - (k + 1) < l.length - k; omega) ⟨rfl, rfl, rfl, rfl, rfl, trivial⟩ ?_
        show Ent _ [slc tDd false T l, treeA p (runL [] (l.take (k + 1))), star C D, slc tDd false T2 l2, F]
        rw [hst]
        exact Ent.re [2, 1, 0, 3, 4] rfl
      · obtain rfl : k = l.length := by omega
        rw [List.take_length] at hR ⊢
        refine J_exit ?_
        refine seqQ_exit ?_
        refine loopQ_exit ?_
        refine blockQ_hit ?_
        exact ⟨rfl, S, C, hR, ⟨rfl, rfl, rfl, trivial⟩, Ent.re [3, 1, 2, 4] rfl⟩
    rintro _ ρ2 L2 ⟨rfl, S, C, hR, hsub, hent⟩
    refine seqQ_normal ?_
    refine J.sub hsub ?_
    refine J.ent hent ?_
    clear hsub hent
    have hm := runL_300 (k := l.length) h300
    rw [List.take_length] at hm
    generalize runL [] l = m at *
    refine J_seq ?_
    refine J_region ?_
    refine L_q (Q_move rfl) rfl rfl rfl ?_
    refine L_o rfl rfl rfl (O_call [1] [0,2,3] (tclone_ok E p m) rfl rfl ?_)
    rintro _ _ ⟨q, rfl, rfl⟩
    refine JL.norm ?_
    refine L_q (Q_assign rfl) rfl rfl rfl ?_
    refine JL_nil ?_
    refine seqQ_normal ?_
    refine J_seq ?_
    refine J_region ?_
    refine L_q (Q_move rfl) rfl rfl rfl ?_
    refine L_q (Q_assign rfl) rfl rfl rfl ?_
    refine JL_nil ?_
    refine seqQ_normal ?_
    refine J_seq ?_
    refine J_seq ?_
    refine J_region ?_
    refine L_q (Q_assign rfl) rfl rfl rfl ?_
    refine JL_nil ?_
    refine seqQ_normal ?_
    refine J_block ?_
    refine J_loop (fun i : Two => i.k ≤ l2.length ∧ Rdy E i.C i.S i.x ∧ Rdy E i.C i.U i.y ∧ i.x.length ≤ 300 + i.k ∧ i.y.length ≤ 300 + i.k) (fun i => [(1, T2.v), (5, .pointer (some ⟨p, 0, none⟩)), (6, i.S.v), (8, .pointer (some ⟨q, 0, none⟩)), (9, i.U.v), (10, .int .i64 (i.k : Int))]) (fun i => [slc tDd false T2 l2, treeA p i.x, treeA q i.y, i.C, F]) (fun i => l2.length - i.k) ⟨0, S, S, m, m, C⟩ ⟨Nat.zero_le _, hR, hR, hm, hm⟩ ⟨rfl, rfl, rfl, rfl, rfl, rfl, trivial⟩ (Ent.re [2, 0, 1, 3, 4] rfl) ?_
    rintro ⟨k, S, U, x, y, C⟩ ⟨hk, hx, hy, hxl, hyl⟩
    dsimp only at hk hx hy hxl hyl ⊢
    refine J.have (p := Up x) (fun w hs => up_at1 hs) fun hux => ?_
    refine J.have (p := Up y) (fun w hs => up_at2 hs) fun huy => ?_
    refine J_seq ?_
    refine J_seq ?_
    refine J_region ?_
    refine L_q (Q_move rfl) rfl rfl rfl ?_
    refine L_q (Q_move rfl) rfl rfl rfl ?_
    refine L_q (Q_lenAt 0 rfl rfl) rfl rfl rfl ?_
    refine L_q (Q_lss rfl rfl) rfl rfl rfl ?_
    refine JL_nil ?_
    refine seqQ_normal ?_
    refine J_condD rfl (fun h => ?_) (fun h => ?_)
    · have hlt : k < l2.length := by omega
      have hdx := len_do hux l2[k]
      have hdy := len_do huy l2[k]
      refine J_skip ?_
      refine seqQ_normal ?_
      refine J_seq ?_
      refine J_block ?_
      refine J_seq ?_
      refine J_region ?_
      refine L_q (Q_move rfl) rfl rfl rfl ?_
      refine L_q (Q_and rfl rfl rfl) rfl rfl rfl ?_
      refine L_q (Q_eql rfl rfl) rfl rfl rfl ?_
      refine JL_nil ?_
      refine seqQ_normal ?_
      refine J_condD rfl (fun h5 => ?_) (fun h5 => ?_)
      · skip
        refine J_region ?_
        refine L_q (Q_move rfl) rfl rfl rfl ?_
        refine L_q (Q_move rfl) rfl rfl rfl ?_
        refine L_q (Q_move rfl) rfl rfl rfl ?_
        refine L_q (Q_move rfl) rfl rfl rfl ?_
        refine L_q (Q_ixAt 0 k rfl rfl rfl rfl hlt rfl) rfl rfl rfl ?_
        refine L_q (Q_ldEAAt 0 k 0 (vs := ddV l2[k]) rfl rfl rfl rfl hlt (by decide) rfl) rfl rfl rfl ?_
        refine L_o rfl rfl rfl (O_call [1,3] [0,2,4] (do_ok E p x l2[k] C S hx (by omega)) rfl rfl ?_)
        rintro _ _ ⟨S2, D, hR2, rfl, rfl⟩
        refine JL.norm ?_
        refine L_q (Q_move rfl) rfl rfl rfl ?_
        refine L_q (Q_extract (v := S2.v) rfl rfl) rfl rfl rfl ?_
        refine L_q (Q_extract (v := .bool true) rfl rfl) rfl rfl rfl ?_
        refine L_q (Q_assign rfl) rfl rfl rfl ?_
        refine JL_nil ?_
        refine blockQ_normal ?_
        refine seqQ_normal ?_
        refine J.ent ((Ent.re [1, 2, 0, 3, 4, 5] rfl).trans Ent.star_in) ?_
        refine J_region ?_
        refine L_q (Q_move rfl) rfl rfl rfl ?_
        refine L_q (Q_add rfl rfl (by first | exact IntWalk.i64_in _ (by omega) | exact IntWalk.u8_in _ (by omega) | exact IntWalk.u32_in _ (by omega) | exact IntWalk.u64_in _ (by omega) | rfl)) rfl rfl rfl ?_
        refine L_q (Q_assign rfl) rfl rfl rfl ?_
        refine JL_nil ?_
        exact loopQ_normal ⟨k + 1, S2, U, doL x l2[k], y, star C D⟩ ⟨hlt, hR2, hy.old, by show (doL x l2[k]).length ≤ 300 + (k + 1); omega, by show y.length ≤ 300 + (k + 1); omega⟩ (by show l2.length - (k + 1) < l2.length - k; omega) ⟨rfl, rfl, rfl, rfl, rfl, rfl, trivial⟩ (Ent.re [2, 1, 3, 0, 4] rfl)
      · skip
        refine J_region ?_
        refine L_q (Q_move rfl) rfl rfl rfl ?_
        refine L_q (Q_move rfl) rfl rfl rfl ?_
        refine L_q (Q_move rfl) rfl rfl rfl ?_
        refine L_q (Q_move rfl) rfl rfl rfl ?_
        refine L_q (Q_ixAt 0 k rfl rfl rfl rfl hlt rfl) rfl rfl rfl ?_
        refine L_q (Q_ldEAAt 0 k 0 (vs := ddV l2[k]) rfl rfl rfl rfl hlt (by decide) rfl) rfl rfl rfl ?_
        refine L_o rfl rfl rfl (O_call [2,3] [0,1,4] (do_ok E q y l2[k] C U hy (by omega)) rfl rfl ?_)
        rintro _ _ ⟨S2, D, hR2, rfl, rfl⟩
        refine JL.norm ?_
        refine L_q (Q_move rfl) rfl rfl rfl ?_
        refine L_q (Q_extract (v := S2.v) rfl rfl) rfl rfl rfl ?_
        refine L_q (Q_extract (v := .bool true) rfl rfl) rfl rfl rfl ?_
        refine L_q (Q_assign rfl) rfl rfl rfl ?_
        refine JL_nil ?_
        refine blockQ_normal ?_
        refine seqQ_normal ?_
        refine J.ent ((Ent.re [1, 2, 0, 3, 4, 5] rfl).trans Ent.star_in) ?_
        refine J_region ?_
        refine L_q (Q_move rfl) rfl rfl rfl ?_
        refine L_q (Q_add rfl rfl (by first | exact IntWalk.i64_in _ (by omega) | exact IntWalk.u8_in _ (by omega) | exact IntWalk.u32_in _ (by omega) | exact IntWalk.u64_in _ (by omega) | rfl)) rfl rfl rfl ?_
        refine L_q (Q_assign rfl) rfl rfl rfl ?_
        refine JL_nil ?_
        exact loopQ_normal ⟨k + 1, S, S2, x, doL y l2[k], star C D⟩ ⟨hlt, hx.old, hR2, by show x.length ≤ 300 + (k + 1); omega, by show (doL y l2[k]).length ≤ 300 + (k + 1); omega⟩ (by show l2.length - (k + 1) < l2.length - k; omega) ⟨rfl, rfl, rfl, rfl, rfl, rfl, trivial⟩ (Ent.re [2, 3, 1, 0, 4] rfl)
    · have rx := trange_ok E p x [] [] 1000 (by omega)
      rw [rngL_all (by decide) (by omega)] at rx
      have ry := trange_ok E q y [] [] 1000 (by omega)
      rw [rngL_all (by decide) (by omega)] at ry
      refine J_exit ?_
      refine seqQ_exit ?_
      refine loopQ_exit ?_
      refine blockQ_hit ?_
      refine seqQ_normal ?_
      refine J_seq ?_
      refine J_region ?_
      refine L_q (Q_move rfl) rfl rfl rfl ?_
      refine L_o rfl rfl rfl (O_call [1] [0,2,3,4] rx rfl rfl ?_)
      rintro _ _ ⟨S2, rfl, rfl⟩
      refine JL.norm ?_
      refine L_q (Q_move rfl) rfl rfl rfl ?_
      refine L_o rfl rfl rfl (O_call [1,4] [0,2,3,5] (rsame2_ok E C S S2 x hx (by omega)) rfl rfl ?_)
      rintro _ _ ⟨rfl, rfl⟩
      refine JL.norm ?_
      refine L_q (Q_move rfl) rfl rfl rfl ?_
      refine L_q (Q_move rfl) rfl rfl rfl ?_
      refine L_o rfl rfl rfl (O_call [4] [0,1,2,3,5] ry rfl rfl ?_)
      rintro _ _ ⟨S3, rfl, rfl⟩
      refine JL.norm ?_
      refine L_q (Q_move rfl) rfl rfl rfl ?_
      refine L_o rfl rfl rfl (O_call [1,3] [0,2,4,5,6] (rsame2_ok E C U S3 y hy (by omega)) rfl rfl ?_)
      rintro _ _ ⟨rfl, rfl⟩
      refine JL.norm ?_
      refine L_q (Q_pickT rfl rfl) rfl rfl rfl ?_
      refine L_q (Q_move rfl) rfl rfl rfl ?_
      refine L_q (Q_move rfl) rfl rfl rfl ?_
      refine L_o rfl rfl rfl (O_call [4] [0,1,2,3,5,6] (tright_ok E p x (by omega)) rfl rfl ?_)
      rintro _ _ ⟨rfl, rfl⟩
      refine JL.norm ?_
      refine L_q (Q_pickT rfl rfl) rfl rfl rfl ?_
      refine L_q (Q_move rfl) rfl rfl rfl ?_
      refine L_q (Q_move rfl) rfl rfl rfl ?_
      refine L_o rfl rfl rfl (O_call [3] [0,1,2,4,5,6] (tright_ok E q y (by omega)) rfl rfl ?_)
      rintro _ _ ⟨rfl, rfl⟩
      refine JL.norm ?_
      refine L_q (Q_pickT rfl rfl) rfl rfl rfl ?_
      refine L_q (Q_move rfl) rfl rfl rfl ?_
      refine L_o rfl rfl rfl (O_call [] [0,1,2,3,4,5,6] (awake36_ok E) rfl rfl ?_)
      rintro _ _ ⟨rfl, rfl⟩
      refine JL.norm ?_
      refine L_q (Q_pickT rfl rfl) rfl rfl rfl ?_
      refine L_q (Q_assign rfl) rfl rfl rfl ?_
      refine JL_nil ?_
      refine seqQ_normal ?_
      refine J_ret ?_
      exact retQ_ret _ [] (.cons (RV_tmp rfl) .nil) ⟨rfl, rfl⟩ (Ent.re [6] rfl)
end Go.Proofs
