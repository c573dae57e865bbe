/- A slot: its words, what they are meant to be, is it right. -/
import Derived.Test.YtjpkeibhimimpaaRec
import Derived.Test.YtjpkeibhimimpaaSnapP
set_option autoImplicit false
namespace Go.Proofs
open Go.SL
attribute [local irreducible] J JL QOp JOp seqQ blockQ loopQ retQ slc cel hex star pur stars Does RV Ent pAt
instance : Places Try.prog 62 [(0, 1), (1, 1), (2, 1)] [.int .u32 0, .int .u32 0, .int .u32 0] := Places.arr3 (k := .u32) rfl
theorem eqg3 : EqG Try.prog 62 := ⟨by kernel_rfl⟩
def ws (l : List UInt8) (k : Nat) : List Value := (List.range 3).map fun j => Value.int .u32 (wd l k j : Int)
theorem ws_get (l : List UInt8) (k j : Nat) (h : j < 3) : (ws l k)[j]? = some (Value.int .u32 (wd l k j : Int)) := by
  simp [ws, h]
theorem ws_set (l : List UInt8) (k : Nat) (h : k < l.length) (h2 : k < 12) : (ws l k).take (k / 4) ++ [Value.int .u32 (wd l (k + 1) (k / 4) : Int)] ++ (ws l k).drop (k / 4 + 1) = ws l (k + 1) := by
  have hl : k / 4 < (ws l k).length := by simp [ws]; omega
  have e : (ws l k).take (k / 4) ++ [Value.int .u32 (wd l (k + 1) (k / 4) : Int)] ++ (ws l k).drop (k / 4 + 1) = (ws l k).set (k / 4) (Value.int .u32 (wd l (k + 1) (k / 4) : Int)) := by
    rw [List.set_eq_take_append_cons_drop, if_pos hl]; simp
  rw [e]
  apply List.ext_getElem?
  intro j
  rw [List.getElem?_set]
  by_cases hj : k / 4 = j
  · subst hj
    rw [if_pos rfl, if_pos hl, ws_get _ _ _ (by omega)]
  · rw [if_neg hj]
    by_cases h3 : j < 3
    · rw [ws_get _ _ _ h3, ws_get _ _ _ h3, wd_other l k j h (fun h => hj h.symm)]
    · simp [ws, h3]
abbrev wsV (l : List UInt8) : Value := .agg #[.int .u32 (nw l 0 : Int), .int .u32 (nw l 1 : Int), .int .u32 (nw l 2 : Int)]
theorem ws_12 (l : List UInt8) : ws l 12 = [.int .u32 (nw l 0 : Int), .int .u32 (nw l 1 : Int), .int .u32 (nw l 2 : Int)] := by
  have e : ws l 12 = [.int .u32 (wd l 12 0 : Int), .int .u32 (wd l 12 1 : Int), .int .u32 (wd l 12 2 : Int)] := rfl
  rw [e, wd_12 l 0 (by decide), wd_12 l 1 (by decide), wd_12 l 2 (by decide)]

theorem words_ok (E : World) (S : SV) (l : List UInt8) (hl : 12 ≤ l.length) : Does Try.prog E 23 [.agg #[S.v]] [slc tB true S l] fun v L => v = wsV l ∧ L = [slc tB true S l] := by
  refine Does.of Try.func23 rfl Try.ntmps23 rfl rfl fun F => ?_
  refine J.norm ?_
  repeat first
    | refine J_seq ?_
    | refine seqQ_normal ?_
    | refine J_condT rfl ?_
    | refine J_condF rfl ?_
    | refine J_block ?_
    | refine blockQ_normal ?_
    | refine J_exit ?_
    | refine seqQ_exit ?_
    | refine blockQ_hit ?_
    | refine blockQ_miss rfl ?_
    | refine J_skip ?_
    | refine J_ret ?_
    | refine seqQ_ret ?_
    | refine blockQ_ret ?_
    | refine loopQ_exit ?_
    | refine loopQ_ret ?_
    | refine J_label ?_
  refine J_region ?_
  refine L_o rfl rfl rfl (O_box rfl fun b1 => ?_)
  refine L_o rfl rfl rfl (O_alloc fun b2 => ?_)
  refine JL_nil ?_
  repeat first
    | refine J_seq ?_
    | refine seqQ_normal ?_
    | refine J_condT rfl ?_
    | refine J_condF rfl ?_
    | refine J_block ?_
    | refine blockQ_normal ?_
    | refine J_exit ?_
    | refine seqQ_exit ?_
    | refine blockQ_hit ?_
    | refine blockQ_miss rfl ?_
    | refine J_skip ?_
    | refine J_ret ?_
    | refine seqQ_ret ?_
    | refine blockQ_ret ?_
    | refine loopQ_exit ?_
    | refine loopQ_ret ?_
    | refine J_label ?_
  repeat first
    | refine J_seq ?_
    | refine seqQ_normal ?_
    | refine J_condT rfl ?_
    | refine J_condF rfl ?_
    | refine J_block ?_
    | refine blockQ_normal ?_
    | refine J_exit ?_
    | refine seqQ_exit ?_
    | refine blockQ_hit ?_
    | refine blockQ_miss rfl ?_
    | refine J_skip ?_
    | refine J_ret ?_
    | refine seqQ_ret ?_
    | refine blockQ_ret ?_
    | refine loopQ_exit ?_
    | refine loopQ_ret ?_
    | refine J_label ?_
  refine J_region ?_
  refine L_o rfl rfl rfl (O_alloc fun b3 => ?_)
  refine JL_nil ?_
  repeat first
    | refine J_seq ?_
    | refine seqQ_normal ?_
    | refine J_condT rfl ?_
    | refine J_condF rfl ?_
    | refine J_block ?_
    | refine blockQ_normal ?_
    | refine J_exit ?_
    | refine seqQ_exit ?_
    | refine blockQ_hit ?_
    | refine blockQ_miss rfl ?_
    | refine J_skip ?_
    | refine J_ret ?_
    | refine seqQ_ret ?_
    | refine blockQ_ret ?_
    | refine loopQ_exit ?_
    | refine loopQ_ret ?_
    | refine J_label ?_
  repeat first
    | refine J_seq ?_
    | refine seqQ_normal ?_
    | refine J_condT rfl ?_
    | refine J_condF rfl ?_
    | refine J_block ?_
    | refine blockQ_normal ?_
    | refine J_exit ?_
    | refine seqQ_exit ?_
    | refine blockQ_hit ?_
    | refine blockQ_miss rfl ?_
    | refine J_skip ?_
    | refine J_ret ?_
    | refine seqQ_ret ?_
    | refine blockQ_ret ?_
    | refine loopQ_exit ?_
    | refine loopQ_ret ?_
    | refine J_label ?_
  refine J_region ?_
  refine L_q (Q_move rfl) rfl rfl rfl ?_
  refine JL_nil ?_
  repeat first
    | refine J_seq ?_
    | refine seqQ_normal ?_
    | refine J_condT rfl ?_
    | refine J_condF rfl ?_
    | refine J_block ?_
    | refine blockQ_normal ?_
    | refine J_exit ?_
    | refine seqQ_exit ?_
    | refine blockQ_hit ?_
    | refine blockQ_miss rfl ?_
    | refine J_skip ?_
    | refine J_ret ?_
    | refine seqQ_ret ?_
    | refine blockQ_ret ?_
    | refine loopQ_exit ?_
    | refine loopQ_ret ?_
    | refine J_label ?_
  refine J_loop (fun k : Nat => k ≤ 12) (fun k => [(1, .pointer (some ⟨b1, 0, none⟩)), (2, .pointer (some ⟨b2, 0, none⟩)), (3, .pointer (some ⟨b3, 0, none⟩)), (5, .int .i64 (k : Int))])
    (fun k => [cel b3 (ws l k) 62, cel b2 [.int .u32 0, .int .u32 0, .int .u32 0] 62, cel b1 [S.v] 56, slc tB true S l, F]) (fun k => 12 - k) 0 (by omega) ⟨rfl, rfl, rfl, rfl, trivial⟩ (Ent.refl _) ?_
  intro k hk
  repeat first
    | refine J_seq ?_
    | refine seqQ_normal ?_
    | refine J_condT rfl ?_
    | refine J_condF rfl ?_
    | refine J_block ?_
    | refine blockQ_normal ?_
    | refine J_exit ?_
    | refine seqQ_exit ?_
    | refine blockQ_hit ?_
    | refine blockQ_miss rfl ?_
    | refine J_skip ?_
    | refine J_ret ?_
    | refine seqQ_ret ?_
    | refine blockQ_ret ?_
    | refine loopQ_exit ?_
    | refine loopQ_ret ?_
    | refine J_label ?_
  refine J_region ?_
  refine L_q (Q_lss rfl rfl) rfl rfl rfl ?_
  refine JL_nil ?_
  repeat first
    | refine J_seq ?_
    | refine seqQ_normal ?_
    | refine J_condT rfl ?_
    | refine J_condF rfl ?_
    | refine J_block ?_
    | refine blockQ_normal ?_
    | refine J_exit ?_
    | refine seqQ_exit ?_
    | refine blockQ_hit ?_
    | refine blockQ_miss rfl ?_
    | refine J_skip ?_
    | refine J_ret ?_
    | refine seqQ_ret ?_
    | refine blockQ_ret ?_
    | refine loopQ_exit ?_
    | refine loopQ_ret ?_
    | refine J_label ?_
  refine J_condD rfl (fun h => ?_) (fun h => ?_)
  · have hlt : k < 12 := by omega
    have hlt2 : k < l.length := by omega
    have hq : IntKind.i64.wrap (Int.tdiv (k : Int) 4) = ((k / 4 : Nat) : Int) := by
      have : Int.tdiv (k : Int) 4 = ((k / 4 : Nat) : Int) := by rw [Int.tdiv_eq_ediv_of_nonneg (by omega)]; omega
      rw [this]; exact IntWalk.i64_in _ (by omega)
    have hw1 : wd l k (k / 4) * 2 ^ 8 % 2 ^ 32 < 2 ^ 32 := Nat.mod_lt _ (by decide)
    have hw2 : l[k].toNat % 2 ^ 32 < 2 ^ 32 := Nat.mod_lt _ (by decide)
    repeat first
      | refine J_seq ?_
      | refine seqQ_normal ?_
      | refine J_condT rfl ?_
      | refine J_condF rfl ?_
      | refine J_block ?_
      | refine blockQ_normal ?_
      | refine J_exit ?_
      | refine seqQ_exit ?_
      | refine blockQ_hit ?_
      | refine blockQ_miss rfl ?_
      | refine J_skip ?_
      | refine J_ret ?_
      | refine seqQ_ret ?_
      | refine blockQ_ret ?_
      | refine loopQ_exit ?_
      | refine loopQ_ret ?_
      | refine J_label ?_
    refine J_region ?_
    refine L_q (Q_move rfl) rfl rfl rfl ?_
    refine L_q (Q_assign rfl) rfl rfl rfl ?_
    refine JL_nil ?_
    repeat first
      | refine J_seq ?_
      | refine seqQ_normal ?_
      | refine J_condT rfl ?_
      | refine J_condF rfl ?_
      | refine J_block ?_
      | refine blockQ_normal ?_
      | refine J_exit ?_
      | refine seqQ_exit ?_
      | refine blockQ_hit ?_
      | refine blockQ_miss rfl ?_
      | refine J_skip ?_
      | refine J_ret ?_
      | refine seqQ_ret ?_
      | refine blockQ_ret ?_
      | refine loopQ_exit ?_
      | refine loopQ_ret ?_
      | refine J_label ?_
    repeat first
      | refine J_seq ?_
      | refine seqQ_normal ?_
      | refine J_condT rfl ?_
      | refine J_condF rfl ?_
      | refine J_block ?_
      | refine blockQ_normal ?_
      | refine J_exit ?_
      | refine seqQ_exit ?_
      | refine blockQ_hit ?_
      | refine blockQ_miss rfl ?_
      | refine J_skip ?_
      | refine J_ret ?_
      | refine seqQ_ret ?_
      | refine blockQ_ret ?_
      | refine loopQ_exit ?_
      | refine loopQ_ret ?_
      | refine J_label ?_
    refine J_drawL [0, 1, 2, 3, 4, 5, 6, 7, 8, 9, 10, 11, 12, 13, 14] (.quiet 0 (.quiet 1 (.quiet 2 (.quiet 3 (.quiet 4 (.quiet 5 (.quiet 6 (.quiet 7 (.quiet 8 (.quiet 9 (.quiet 10 (.quiet 11 (.quiet 12 (.quiet 13 (.quiet 14 (.loud 15 .done)))))))))))))))) Try.mixed (by kernel_rfl) (by kernel_rfl) (by repeat (first | exact retQ_noP | refine seqQ_noP ?_ | refine blockQ_noP ?_ | refine loopQ_noP ?_)) ?_
    refine S_q (Ent.refl _) rfl (Q_move rfl) rfl rfl rfl ?_
    refine S_q (Ent.refl _) rfl (Q_quo rfl rfl (by decide) hq) rfl rfl rfl ?_
    refine S_q (Ent.refl _) rfl (Q_move rfl) rfl rfl rfl ?_
    refine S_q (Ent.refl _) rfl (Q_quo rfl rfl (by decide) hq) rfl rfl rfl ?_
    refine S_q (Ent.refl _) rfl (Q_ia (o' := k / 4) (k / 4) rfl rfl rfl (by omega) (by omega)) rfl rfl rfl ?_
    refine S_q (Ent.refl _) rfl (Q_ld 0 (v := .int .u32 (wd l k (k / 4) : Int)) rfl rfl rfl (ws_get l k _ (by omega))) rfl rfl rfl ?_
    refine S_q (Ent.refl _) rfl (Q_shlN (wd l k (k / 4)) 8 rfl rfl rfl rfl (by decide)) rfl rfl rfl ?_
    first
      | refine S_q (Ent.refl _) rfl (Q_fa0 rfl) rfl rfl rfl ?_
      | refine S_q (Ent.refl _) rfl (Q_fa rfl rfl) rfl rfl rfl ?_
      | refine S_q (Ent.refl _) rfl (Q_pfa rfl) rfl rfl rfl ?_
    first
      | refine S_q (Ent.refl _) rfl (Q_ld 0 rfl rfl rfl rfl) rfl rfl rfl ?_
      | refine S_q (Ent.refl _) rfl (Q_ld 1 rfl rfl rfl rfl) rfl rfl rfl ?_
      | refine S_q (Ent.refl _) rfl (Q_ld 2 rfl rfl rfl rfl) rfl rfl rfl ?_
      | refine S_q (Ent.refl _) rfl (Q_ld 3 rfl rfl rfl rfl) rfl rfl rfl ?_
      | refine S_q (Ent.refl _) rfl (Q_ld 4 rfl rfl rfl rfl) rfl rfl rfl ?_
    refine S_q (Ent.refl _) rfl (Q_move rfl) rfl rfl rfl ?_
    refine S_q (Ent.refl _) rfl (Q_ixAt 3 k rfl rfl rfl rfl hlt2 rfl) rfl rfl rfl ?_
    refine S_q (Ent.refl _) rfl (Q_ldEAt 3 k 0 (v := .int .u8 (l[k].toNat : Int)) rfl rfl rfl rfl hlt2 (by decide) rfl) rfl rfl rfl ?_
    refine S_q (Ent.refl _) rfl (Q_cvtN l[k].toNat rfl rfl) rfl rfl rfl ?_
    refine S_q (Ent.refl _) rfl ((Q_orN (wd l k (k / 4) * 2 ^ 8 % 2 ^ 32) (l[k].toNat % 2 ^ 32) rfl rfl rfl rfl hw1 hw2).as (v' := .int .u32 (wd l (k + 1) (k / 4) : Int)) (by rw [wd_or l k hlt2])) rfl rfl rfl ?_
    refine S_q (Ent.refl _) rfl (Q_ia (o' := k / 4) (k / 4) rfl rfl rfl (by omega) (by omega)) rfl rfl rfl ?_
    refine S_s rfl rfl rfl (O_st (sz := 1) 0 rfl rfl rfl rfl rfl (by simp [Value.oneCell', Value.cells]) (by simp [ws]; omega) (ws_set l k hlt2 hlt) ⟨[], free_no (by kernel_rfl), ?_⟩)
    refine JS.norm ?_
    refine S_nil ?_
    repeat first
      | refine J_seq ?_
      | refine seqQ_normal ?_
      | refine J_condT rfl ?_
      | refine J_condF rfl ?_
      | refine J_block ?_
      | refine blockQ_normal ?_
      | refine J_exit ?_
      | refine seqQ_exit ?_
      | refine blockQ_hit ?_
      | refine blockQ_miss rfl ?_
      | refine J_skip ?_
      | refine J_ret ?_
      | refine seqQ_ret ?_
      | refine blockQ_ret ?_
      | refine loopQ_exit ?_
      | refine loopQ_ret ?_
      | refine J_label ?_
    repeat first
      | refine J_seq ?_
      | refine seqQ_normal ?_
      | refine J_condT rfl ?_
      | refine J_condF rfl ?_
      | refine J_block ?_
      | refine blockQ_normal ?_
      | refine J_exit ?_
      | refine seqQ_exit ?_
      | refine blockQ_hit ?_
      | refine blockQ_miss rfl ?_
      | refine J_skip ?_
      | refine J_ret ?_
      | refine seqQ_ret ?_
      | refine blockQ_ret ?_
      | refine loopQ_exit ?_
      | refine loopQ_ret ?_
      | refine J_label ?_
    refine J_region ?_
    refine L_q (Q_add rfl rfl (by first | exact IntWalk.i64_in _ (by omega) | exact IntWalk.u8_in _ (by omega) | exact IntWalk.u32_in _ (by omega) | exact IntWalk.u64_in _ (by omega) | rfl)) rfl rfl rfl ?_
    refine L_q (Q_move rfl) rfl rfl rfl ?_
    refine JL_nil ?_
    repeat first
      | refine J_seq ?_
      | refine seqQ_normal ?_
      | refine J_condT rfl ?_
      | refine J_condF rfl ?_
      | refine J_block ?_
      | refine blockQ_normal ?_
      | refine J_exit ?_
      | refine seqQ_exit ?_
      | refine blockQ_hit ?_
      | refine blockQ_miss rfl ?_
      | refine J_skip ?_
      | refine J_ret ?_
      | refine seqQ_ret ?_
      | refine blockQ_ret ?_
      | refine loopQ_exit ?_
      | refine loopQ_ret ?_
      | refine J_label ?_
    exact loopQ_normal (k + 1) hlt (by omega) ⟨rfl, rfl, rfl, rfl, trivial⟩ (Ent.refl _)
  · obtain rfl : k = 12 := by omega
    rw [ws_12]
    repeat first
      | refine J_seq ?_
      | refine seqQ_normal ?_
      | refine J_condT rfl ?_
      | refine J_condF rfl ?_
      | refine J_block ?_
      | refine blockQ_normal ?_
      | refine J_exit ?_
      | refine seqQ_exit ?_
      | refine blockQ_hit ?_
      | refine blockQ_miss rfl ?_
      | refine J_skip ?_
      | refine J_ret ?_
      | refine seqQ_ret ?_
      | refine blockQ_ret ?_
      | refine loopQ_exit ?_
      | refine loopQ_ret ?_
      | refine J_label ?_
    refine J_region ?_
    first
      | refine L_q (Q_ldA 0 rfl rfl rfl) rfl rfl rfl ?_
      | refine L_q (Q_ldA 1 rfl rfl rfl) rfl rfl rfl ?_
      | refine L_q (Q_ldA 2 rfl rfl rfl) rfl rfl rfl ?_
      | refine L_q (Q_ldA 3 rfl rfl rfl) rfl rfl rfl ?_
      | refine L_q (Q_ldA 4 rfl rfl rfl) rfl rfl rfl ?_
    first
      | refine L_s rfl rfl (O_stW 0 rfl rfl rfl rfl ?_)
      | refine L_s rfl rfl (O_stW 1 rfl rfl rfl rfl ?_)
      | refine L_s rfl rfl (O_stW 2 rfl rfl rfl rfl ?_)
      | refine L_s rfl rfl (O_stW 3 rfl rfl rfl rfl ?_)
      | refine L_s rfl rfl (O_stW 4 rfl rfl rfl rfl ?_)
    refine JL.norm ?_
    refine JL_nil ?_
    repeat first
      | refine J_seq ?_
      | refine seqQ_normal ?_
      | refine J_condT rfl ?_
      | refine J_condF rfl ?_
      | refine J_block ?_
      | refine blockQ_normal ?_
      | refine J_exit ?_
      | refine seqQ_exit ?_
      | refine blockQ_hit ?_
      | refine blockQ_miss rfl ?_
      | refine J_skip ?_
      | refine J_ret ?_
      | refine seqQ_ret ?_
      | refine blockQ_ret ?_
      | refine loopQ_exit ?_
      | refine loopQ_ret ?_
      | refine J_label ?_
    exact retQ_ret _ [slc tB true S l] (.cons (RV_cell 1 rfl rfl rfl rfl) .nil) ⟨rfl, rfl⟩ (Ent.re [3, 4] rfl)

theorem meant_ok (E : World) (S : SV) (l : List UInt8) (g : Nat) (hl : 12 ≤ l.length) (hl2 : l.length ≤ 100000) : Does Try.prog E 40 [.agg #[S.v], .int .u32 (g : Int)] [slc tB true S l] fun v L => v = .agg #[.int .u32 (crc (l.drop 4) : Int), .int .u32 (g : Int), .int .u32 (((l.length - 12) % 2 ^ 32 : Nat) : Int)] ∧ L = [slc tB true S l] := by
  have hq : IntKind.i64.wrap ((l.length : Int) - 12) = ((l.length - 12 : Nat) : Int) := by
    rw [show (l.length : Int) - 12 = ((l.length - 12 : Nat) : Int) by omega]; exact IntWalk.i64_in _ (by omega)
  have e : ((l.take l.length).drop 4) = l.drop 4 := by rw [List.take_length]
  have hs := sum_ok E (l.drop 4) (by rw [List.length_drop]; omega)
  rw [← e] at hs
  refine Does.of Try.func40 rfl Try.ntmps40 rfl rfl fun F => ?_
  refine J.norm ?_
  repeat first
    | refine J_seq ?_
    | refine seqQ_normal ?_
    | refine J_condT rfl ?_
    | refine J_condF rfl ?_
    | refine J_block ?_
    | refine blockQ_normal ?_
    | refine J_exit ?_
    | refine seqQ_exit ?_
    | refine blockQ_hit ?_
    | refine blockQ_miss rfl ?_
    | refine J_skip ?_
    | refine J_ret ?_
    | refine seqQ_ret ?_
    | refine blockQ_ret ?_
    | refine loopQ_exit ?_
    | refine loopQ_ret ?_
    | refine J_label ?_
  refine J_region ?_
  refine L_o rfl rfl rfl (O_box rfl fun b2 => ?_)
  refine L_o rfl rfl rfl (O_alloc fun b4 => ?_)
  refine JL_nil ?_
  repeat first
    | refine J_seq ?_
    | refine seqQ_normal ?_
    | refine J_condT rfl ?_
    | refine J_condF rfl ?_
    | refine J_block ?_
    | refine blockQ_normal ?_
    | refine J_exit ?_
    | refine seqQ_exit ?_
    | refine blockQ_hit ?_
    | refine blockQ_miss rfl ?_
    | refine J_skip ?_
    | refine J_ret ?_
    | refine seqQ_ret ?_
    | refine blockQ_ret ?_
    | refine loopQ_exit ?_
    | refine loopQ_ret ?_
    | refine J_label ?_
  repeat first
    | refine J_seq ?_
    | refine seqQ_normal ?_
    | refine J_condT rfl ?_
    | refine J_condF rfl ?_
    | refine J_block ?_
    | refine blockQ_normal ?_
    | refine J_exit ?_
    | refine seqQ_exit ?_
    | refine blockQ_hit ?_
    | refine blockQ_miss rfl ?_
    | refine J_skip ?_
    | refine J_ret ?_
    | refine seqQ_ret ?_
    | refine blockQ_ret ?_
    | refine loopQ_exit ?_
    | refine loopQ_ret ?_
    | refine J_label ?_
  refine J_drawH [1,2] [0, 1, 2, 3, 5, 6, 7, 8, 9, 10, 11] (.quiet 0 (.quiet 1 (.quiet 2 (.quiet 3 (.quiet 5 (.quiet 6 (.quiet 7 (.quiet 8 (.quiet 9 (.quiet 10 (.loud 4 (.quiet 11 (.loud 12 .done))))))))))))) Try.mixed (by kernel_rfl) (by kernel_rfl) (by repeat (first | exact retQ_noP | refine seqQ_noP ?_ | refine blockQ_noP ?_ | refine loopQ_noP ?_)) ?_
  first
    | refine S_q (Ent.re [1,2] rfl) rfl (Q_fa0 rfl) rfl rfl rfl ?_
    | refine S_q (Ent.re [1,2] rfl) rfl (Q_fa rfl rfl) rfl rfl rfl ?_
    | refine S_q (Ent.re [1,2] rfl) rfl (Q_pfa rfl) rfl rfl rfl ?_
  first
    | refine S_q (Ent.re [1,2] rfl) rfl (Q_ld 0 rfl rfl rfl rfl) rfl rfl rfl ?_
    | refine S_q (Ent.re [1,2] rfl) rfl (Q_ld 1 rfl rfl rfl rfl) rfl rfl rfl ?_
    | refine S_q (Ent.re [1,2] rfl) rfl (Q_ld 2 rfl rfl rfl rfl) rfl rfl rfl ?_
    | refine S_q (Ent.re [1,2] rfl) rfl (Q_ld 3 rfl rfl rfl rfl) rfl rfl rfl ?_
    | refine S_q (Ent.re [1,2] rfl) rfl (Q_ld 4 rfl rfl rfl rfl) rfl rfl rfl ?_
  refine S_q (Ent.re [1,2] rfl) rfl (Q_slL 4 (fun w h => h.rd 1 rfl) rfl rfl rfl (by omega) rfl) rfl rfl rfl ?_
  refine S_q (Ent.re [1,2] rfl) rfl (Q_b2s tB_enc (fun w h => (h.rd 1 rfl).sub 4 l.length (by omega) (Nat.le_refl _)) rfl) rfl rfl rfl ?_
  refine S_q (Ent.re [1,2] rfl) rfl (Q_move rfl) rfl rfl rfl ?_
  first
    | refine S_q (Ent.re [1,2] rfl) rfl (Q_fa0 rfl) rfl rfl rfl ?_
    | refine S_q (Ent.re [1,2] rfl) rfl (Q_fa rfl rfl) rfl rfl rfl ?_
    | refine S_q (Ent.re [1,2] rfl) rfl (Q_pfa rfl) rfl rfl rfl ?_
  first
    | refine S_q (Ent.re [1,2] rfl) rfl (Q_ld 0 rfl rfl rfl rfl) rfl rfl rfl ?_
    | refine S_q (Ent.re [1,2] rfl) rfl (Q_ld 1 rfl rfl rfl rfl) rfl rfl rfl ?_
    | refine S_q (Ent.re [1,2] rfl) rfl (Q_ld 2 rfl rfl rfl rfl) rfl rfl rfl ?_
    | refine S_q (Ent.re [1,2] rfl) rfl (Q_ld 3 rfl rfl rfl rfl) rfl rfl rfl ?_
    | refine S_q (Ent.re [1,2] rfl) rfl (Q_ld 4 rfl rfl rfl rfl) rfl rfl rfl ?_
  first
    | refine S_q (Ent.re [1,2] rfl) rfl (Q_lenAt 0 rfl rfl) rfl rfl rfl ?_
    | refine S_q (Ent.re [1,2] rfl) rfl (Q_lenAt 1 rfl rfl) rfl rfl rfl ?_
    | refine S_q (Ent.re [1,2] rfl) rfl (Q_lenAt 2 rfl rfl) rfl rfl rfl ?_
    | refine S_q (Ent.re [1,2] rfl) rfl (Q_lenAt 3 rfl rfl) rfl rfl rfl ?_
    | refine S_q (Ent.re [1,2] rfl) rfl (Q_lenAt 4 rfl rfl) rfl rfl rfl ?_
  refine S_q (Ent.re [1,2] rfl) rfl (Q_sub rfl rfl hq) rfl rfl rfl ?_
  refine S_q (Ent.re [1,2] rfl) rfl (Q_cvtN (l.length - 12) rfl rfl) rfl rfl rfl ?_
  refine S_o rfl rfl rfl rfl (O_call [] [0,1,2,3] hs rfl rfl ?_)
  (rintro _ _ ⟨rfl, rfl⟩; refine ⟨_, fun _ => ⟨Ent.reN [1,2] rfl, Ent.refl _⟩, ?_⟩)
  refine JS.norm ?_
  refine S_q (Ent.re [1,2] rfl) rfl (Q_build rfl) rfl rfl rfl ?_
  first
    | refine S_s rfl rfl rfl (O_stW 0 rfl rfl rfl rfl ⟨[], free_no (by kernel_rfl), ?_⟩)
    | refine S_s rfl rfl rfl (O_stW 1 rfl rfl rfl rfl ⟨[], free_no (by kernel_rfl), ?_⟩)
    | refine S_s rfl rfl rfl (O_stW 2 rfl rfl rfl rfl ⟨[], free_no (by kernel_rfl), ?_⟩)
    | refine S_s rfl rfl rfl (O_stW 3 rfl rfl rfl rfl ⟨[], free_no (by kernel_rfl), ?_⟩)
    | refine S_s rfl rfl rfl (O_stW 4 rfl rfl rfl rfl ⟨[], free_no (by kernel_rfl), ?_⟩)
  refine JS.norm ?_
  refine S_nil ?_
  repeat first
    | refine J_seq ?_
    | refine seqQ_normal ?_
    | refine J_condT rfl ?_
    | refine J_condF rfl ?_
    | refine J_block ?_
    | refine blockQ_normal ?_
    | refine J_exit ?_
    | refine seqQ_exit ?_
    | refine blockQ_hit ?_
    | refine blockQ_miss rfl ?_
    | refine J_skip ?_
    | refine J_ret ?_
    | refine seqQ_ret ?_
    | refine blockQ_ret ?_
    | refine loopQ_exit ?_
    | refine loopQ_ret ?_
    | refine J_label ?_
  rw [e]
  exact retQ_ret _ [slc tB true S l] (.cons (RV_cell 0 rfl rfl rfl rfl) .nil) ⟨rfl, rfl⟩ (Ent.re [2, 3] rfl)
end Go.Proofs
