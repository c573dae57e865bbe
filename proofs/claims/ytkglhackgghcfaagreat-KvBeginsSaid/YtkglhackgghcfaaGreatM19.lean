/- Part 19 of the texts below the row: Snap1, Snap2, Snap3. -/
import Derived.Test.YtkglhackgghcfaaGreatM18
/- A slot: its words, what they are meant to be, is it right. -/
set_option autoImplicit false
namespace Go.Proofs
open Go.SL
attribute [local irreducible] J JL QOp JOp seqQ blockQ loopQ retQ slc cel hex star pur stars Does RV Ent pAt
instance : Places Tryz.prog 108 [(0, 1), (1, 1), (2, 1)] [.int .u32 0, .int .u32 0, .int .u32 0] := Places.arr3 (k := .u32) rfl
theorem eqg3 : EqG Tryz.prog 108 := ⟨by kernel_rfl⟩
def ws (l : List UInt8) (k : Nat) : List Value := (List.range 3).map fun j => Value.int .u32 (wd l k j : Int)
theorem ws_get (l : List UInt8) (k j : Nat) (h : j < 3) : (ws l k)[j]? = some (Value.int .u32 (wd l k j : Int)) := by
  simp [ws, h]
theorem ws_set (l : List UInt8) (k : Nat) (h : k < l.length) (h2 : k < 12) : (ws l k).take (k / 4) ++ [Value.int .u32 (wd l (k + 1) (k / 4) : Int)] ++ (ws l k).drop (k / 4 + 1) = ws l (k + 1) := by
  have hl : k / 4 < (ws l k).length := by simp [ws]; omega
  have e : (ws l k).take (k / 4) ++ [Value.int .u32 (wd l (k + 1) (k / 4) : Int)] ++ (ws l k).drop (k / 4 + 1) = (ws l k).set (k / 4) (Value.int .u32 (wd l (k + 1) (k / 4) : Int)) := by
    rw [List.set_eq_take_append_cons_drop, if_pos hl]; simp
  rw [e]
  apply List.ext_getElem?
  intro j
  rw [List.getElem?_set]
  by_cases hj : k / 4 = j
  · subst hj
    rw [if_pos rfl, if_pos hl, ws_get _ _ _ (by omega)]
  · rw [if_neg hj]
    by_cases h3 : j < 3
    · rw [ws_get _ _ _ h3, ws_get _ _ _ h3, wd_other l k j h (fun h => hj h.symm)]
    · simp [ws, h3]
abbrev wsV (l : List UInt8) : Value := .agg #[.int .u32 (nw l 0 : Int), .int .u32 (nw l 1 : Int), .int .u32 (nw l 2 : Int)]
theorem ws_12 (l : List UInt8) : ws l 12 = [.int .u32 (nw l 0 : Int), .int .u32 (nw l 1 : Int), .int .u32 (nw l 2 : Int)] := by
  have e : ws l 12 = [.int .u32 (wd l 12 0 : Int), .int .u32 (wd l 12 1 : Int), .int .u32 (wd l 12 2 : Int)] := rfl
  rw [e, wd_12 l 0 (by decide), wd_12 l 1 (by decide), wd_12 l 2 (by decide)]

theorem words_ok (E : World) (S : SV) (l : List UInt8) (hl : 12 ≤ l.length) : Does Tryz.prog E 48 [.agg #[S.v]] [slc tB true S l] fun v L => v = wsV l ∧ L = [slc tB true S l] := by
  refine Does.of Tryz.func48 rfl Tryz.ntmps48 rfl rfl fun F => ?_
  refine J.norm ?_
  refine J_seq ?_
  refine J_region ?_
  refine L_o rfl rfl rfl (O_box rfl fun b1 => ?_)
  refine L_o rfl rfl rfl (O_alloc fun b2 => ?_)
  refine JL_nil ?_
  refine seqQ_normal ?_
  refine J_seq ?_
  refine J_region ?_
  refine L_o rfl rfl rfl (O_alloc fun b3 => ?_)
  refine JL_nil ?_
  refine seqQ_normal ?_
  refine J_seq ?_
  refine J_seq ?_
  refine J_region ?_
  refine L_q (Q_move rfl) rfl rfl rfl ?_
  refine JL_nil ?_
  refine seqQ_normal ?_
  refine J_block ?_
  refine J_loop (fun k : Nat => k ≤ 12) (fun k => [(1, .pointer (some ⟨b1, 0, none⟩)), (2, .pointer (some ⟨b2, 0, none⟩)), (3, .pointer (some ⟨b3, 0, none⟩)), (5, .int .i64 (k : Int))])
    (fun k => [cel b3 (ws l k) 108, cel b2 [.int .u32 0, .int .u32 0, .int .u32 0] 108, cel b1 [S.v] 89, slc tB true S l, F]) (fun k => 12 - k) 0 (by omega) ⟨rfl, rfl, rfl, rfl, trivial⟩ (Ent.refl _) ?_
  intro k hk
  refine J_seq ?_
  refine J_region ?_
  refine L_q (Q_lss rfl rfl) rfl rfl rfl ?_
  refine JL_nil ?_
  refine seqQ_normal ?_
  refine J_seq ?_
  refine J_condD rfl (fun h => ?_) (fun h => ?_)
  · have hlt : k < 12 := by omega
    have hlt2 : k < l.length := by omega
    have hq : IntKind.i64.wrap (Int.tdiv (k : Int) 4) = ((k / 4 : Nat) : Int) := by
      have : Int.tdiv (k : Int) 4 = ((k / 4 : Nat) : Int) := by rw [Int.tdiv_eq_ediv_of_nonneg (by omega)]; omega
      rw [this]; exact IntWalk.i64_in _ (by omega)
    have hw1 : wd l k (k / 4) * 2 ^ 8 % 2 ^ 32 < 2 ^ 32 := Nat.mod_lt _ (by decide)
    have hw2 : l[k].toNat % 2 ^ 32 < 2 ^ 32 := Nat.mod_lt _ (by decide)
    refine J_skip ?_
    refine seqQ_normal ?_
    refine J_seq ?_
    refine J_block ?_
    refine J_seq ?_
    refine J_region ?_
    refine L_q (Q_move rfl) rfl rfl rfl ?_
    refine L_q (Q_assign rfl) rfl rfl rfl ?_
    refine JL_nil ?_
    refine seqQ_normal ?_
    refine J_drawL [0, 1, 2, 3, 4, 5, 6, 7, 8, 9, 10, 11, 12, 13, 14] (.quiet 0 (.quiet 1 (.quiet 2 (.quiet 3 (.quiet 4 (.quiet 5 (.quiet 6 (.quiet 7 (.quiet 8 (.quiet 9 (.quiet 10 (.quiet 11 (.quiet 12 (.quiet 13 (.quiet 14 (.loud 15 .done)))))))))))))))) Tryz.mixed (by kernel_rfl) (by kernel_rfl) (by repeat (first | exact retQ_noP | refine seqQ_noP ?_ | refine blockQ_noP ?_ | refine loopQ_noP ?_ | refine scopeQ_noP ?_ | (intro _ _ _ h; cases h.1))) ?_
    refine S_q (Ent.refl _) rfl (Q_move rfl) rfl rfl rfl ?_
    refine S_q (Ent.refl _) rfl (Q_quo rfl rfl (by decide) hq) rfl rfl rfl ?_
    refine S_q (Ent.refl _) rfl (Q_move rfl) rfl rfl rfl ?_
    refine S_q (Ent.refl _) rfl (Q_quo rfl rfl (by decide) hq) rfl rfl rfl ?_
    refine S_q (Ent.refl _) rfl (Q_ia (o' := k / 4) (k / 4) rfl rfl rfl (by omega) (by omega)) rfl rfl rfl ?_
    refine S_q (Ent.refl _) rfl (Q_ld 0 (v := .int .u32 (wd l k (k / 4) : Int)) rfl rfl rfl (ws_get l k _ (by omega))) rfl rfl rfl ?_
    refine S_q (Ent.refl _) rfl (Q_shlN (wd l k (k / 4)) 8 rfl rfl rfl rfl (by decide)) rfl rfl rfl ?_
    refine S_q (Ent.refl _) rfl (Q_fa0 rfl) rfl rfl rfl ?_
    refine S_q (Ent.refl _) rfl (Q_ld 2 rfl rfl rfl rfl) rfl rfl rfl ?_
    refine S_q (Ent.refl _) rfl (Q_move rfl) rfl rfl rfl ?_
    refine S_q (Ent.refl _) rfl (Q_ixAt 3 k rfl rfl rfl rfl hlt2 rfl) rfl rfl rfl ?_
    refine S_q (Ent.refl _) rfl (Q_ldEAt 3 k 0 (v := .int .u8 (l[k].toNat : Int)) rfl rfl rfl rfl hlt2 (by decide) rfl) rfl rfl rfl ?_
    refine S_q (Ent.refl _) rfl (Q_cvtN l[k].toNat rfl rfl) rfl rfl rfl ?_
    refine S_q (Ent.refl _) rfl ((Q_orN (wd l k (k / 4) * 2 ^ 8 % 2 ^ 32) (l[k].toNat % 2 ^ 32) rfl rfl rfl rfl hw1 hw2).as (v' := .int .u32 (wd l (k + 1) (k / 4) : Int)) (by rw [wd_or l k hlt2])) rfl rfl rfl ?_
    refine S_q (Ent.refl _) rfl (Q_ia (o' := k / 4) (k / 4) rfl rfl rfl (by omega) (by omega)) rfl rfl rfl ?_
    refine S_s rfl rfl rfl (O_st (sz := 1) 0 rfl rfl rfl rfl rfl (by simp [Value.oneCell', Value.cells]) (by simp [ws]; omega) (ws_set l k hlt2 hlt) ⟨[], free_no (by kernel_rfl), ?_⟩)
    refine JS.norm ?_
    refine S_nil ?_
    refine blockQ_normal ?_
    refine seqQ_normal ?_
    refine J_region ?_
    refine L_q (Q_add rfl rfl (by first | exact IntWalk.i64_in _ (by omega) | exact IntWalk.u8_in _ (by omega) | exact IntWalk.u32_in _ (by omega) | exact IntWalk.u64_in _ (by omega) | rfl)) rfl rfl rfl ?_
    refine L_q (Q_move rfl) rfl rfl rfl ?_
    refine JL_nil ?_
    exact loopQ_normal (k + 1) hlt (by omega) ⟨rfl, rfl, rfl, rfl, trivial⟩ (Ent.refl _)
  · obtain rfl : k = 12 := by omega
    rw [ws_12]
    refine J_exit ?_
    refine seqQ_exit ?_
    refine loopQ_exit ?_
    refine blockQ_hit ?_
    refine seqQ_normal ?_
    refine J_seq ?_
    refine J_region ?_
    refine L_q (Q_ldA 0 rfl rfl rfl) rfl rfl rfl ?_
    refine L_s rfl rfl (O_stW 1 rfl rfl rfl rfl ?_)
    refine JL.norm ?_
    refine JL_nil ?_
    refine seqQ_normal ?_
    refine J_ret ?_
    exact retQ_ret _ [slc tB true S l] (.cons (RV_cell 1 rfl rfl rfl rfl) .nil) ⟨rfl, rfl⟩ (Ent.re [3, 4] rfl)

theorem meant_ok (E : World) (S : SV) (l : List UInt8) (g : Nat) (hl : 12 ≤ l.length) (hl2 : l.length ≤ 100000) : Does Tryz.prog E 80 [.agg #[S.v], .int .u32 (g : Int)] [slc tB true S l] fun v L => v = .agg #[.int .u32 (crc (l.drop 4) : Int), .int .u32 (g : Int), .int .u32 (((l.length - 12) % 2 ^ 32 : Nat) : Int)] ∧ L = [slc tB true S l] := by
  have hq : IntKind.i64.wrap ((l.length : Int) - 12) = ((l.length - 12 : Nat) : Int) := by
    rw [show (l.length : Int) - 12 = ((l.length - 12 : Nat) : Int) by omega]; exact IntWalk.i64_in _ (by omega)
  have e : ((l.take l.length).drop 4) = l.drop 4 := by rw [List.take_length]
  have hs := sum_ok E (l.drop 4) (by rw [List.length_drop]; omega)
  rw [← e] at hs
  refine Does.of Tryz.func80 rfl Tryz.ntmps80 rfl rfl fun F => ?_
  refine J.norm ?_
  refine J_seq ?_
  refine J_region ?_
  refine L_o rfl rfl rfl (O_box rfl fun b2 => ?_)
  refine L_o rfl rfl rfl (O_alloc fun b4 => ?_)
  refine JL_nil ?_
  refine seqQ_normal ?_
  refine J_seq ?_
  refine J_drawH [1,2] [0, 1, 2, 3, 5, 6, 7, 8, 9, 10, 11] (.quiet 0 (.quiet 1 (.quiet 2 (.quiet 3 (.quiet 5 (.quiet 6 (.quiet 7 (.quiet 8 (.quiet 9 (.quiet 10 (.loud 4 (.quiet 11 (.loud 12 .done))))))))))))) Tryz.mixed (by kernel_rfl) (by kernel_rfl) (by repeat (first | exact retQ_noP | refine seqQ_noP ?_ | refine blockQ_noP ?_ | refine loopQ_noP ?_ | refine scopeQ_noP ?_ | (intro _ _ _ h; cases h.1))) ?_
  refine S_q (Ent.re [1,2] rfl) rfl (Q_fa0 rfl) rfl rfl rfl ?_
  refine S_q (Ent.re [1,2] rfl) rfl (Q_ld 0 rfl rfl rfl rfl) rfl rfl rfl ?_
  refine S_q (Ent.re [1,2] rfl) rfl (Q_slL 4 (fun w h => h.rd 1 rfl) rfl rfl rfl (by omega) rfl) rfl rfl rfl ?_
  refine S_q (Ent.re [1,2] rfl) rfl (Q_b2s tB_enc (fun w h => (h.rd 1 rfl).sub 4 l.length (by omega) (Nat.le_refl _)) rfl) rfl rfl rfl ?_
  refine S_q (Ent.re [1,2] rfl) rfl (Q_move rfl) rfl rfl rfl ?_
  refine S_q (Ent.re [1,2] rfl) rfl (Q_fa0 rfl) rfl rfl rfl ?_
  refine S_q (Ent.re [1,2] rfl) rfl (Q_ld 0 rfl rfl rfl rfl) rfl rfl rfl ?_
  refine S_q (Ent.re [1,2] rfl) rfl (Q_lenAt 1 rfl rfl) rfl rfl rfl ?_
  refine S_q (Ent.re [1,2] rfl) rfl (Q_sub rfl rfl hq) rfl rfl rfl ?_
  refine S_q (Ent.re [1,2] rfl) rfl (Q_cvtN (l.length - 12) rfl rfl) rfl rfl rfl ?_
  refine S_o rfl rfl rfl rfl (O_call [] [0,1,2,3] hs rfl rfl ?_)
  (rintro _ _ ⟨rfl, rfl⟩; refine ⟨_, fun _ => ⟨Ent.reN [1,2] rfl, Ent.refl _⟩, ?_⟩)
  refine JS.norm ?_
  refine S_q (Ent.re [1,2] rfl) rfl (Q_build rfl) rfl rfl rfl ?_
  refine S_s rfl rfl rfl (O_stW 0 rfl rfl rfl rfl ⟨[], free_no (by kernel_rfl), ?_⟩)
  refine JS.norm ?_
  refine S_nil ?_
  refine seqQ_normal ?_
  refine J_ret ?_
  rw [e]
  exact retQ_ret _ [slc tB true S l] (.cons (RV_cell 0 rfl rfl rfl rfl) .nil) ⟨rfl, rfl⟩ (Ent.re [2, 3] rfl)
end Go.Proofs
/- Which slot is told. -/
set_option autoImplicit false
namespace Go.Proofs
open Go.SL
attribute [local irreducible] J JL QOp JOp seqQ blockQ loopQ retQ slc cel hex star pur stars Does RV Ent pAt
theorem right_eq (l : List UInt8) (h : 12 ≤ l.length) : decide (((nw l 0 : Int)) = ((crc (l.drop 4) : Nat) : Int) ∧ ((nw l 1 : Nat) : Int) = ((nw l 1 : Nat) : Int) ∧ ((nw l 2 : Nat) : Int) = (((l.length - 12) % 2 ^ 32 : Nat) : Int)) = rightB l := by
  simp only [rightB, h, decide_true, Bool.true_and]
  by_cases h1 : nw l 0 = crc (l.drop 4) <;> by_cases h2 : nw l 2 = (l.length - 12) % 2 ^ 32 <;> simp [h1, h2] <;> omega
theorem right_ok (E : World) (S : SV) (l : List UInt8) (hl2 : l.length ≤ 100000) : Does Tryz.prog E 68 [.agg #[S.v]] [slc tB true S l] fun v L => v = .bool (rightB l) ∧ L = [slc tB true S l] := by
  refine Does.of Tryz.func68 rfl Tryz.ntmps68 rfl rfl fun F => ?_
  refine J.norm ?_
  refine J_seq ?_
  refine J_region ?_
  refine L_o rfl rfl rfl (O_box rfl fun b1 => ?_)
  refine L_q (Q_assign rfl) rfl rfl rfl ?_
  refine JL_nil ?_
  refine seqQ_normal ?_
  refine J_seq ?_
  refine J_seq ?_
  refine J_region ?_
  refine L_q (Q_fa0 rfl) rfl rfl rfl ?_
  refine L_q (Q_ld 0 rfl rfl rfl rfl) rfl rfl rfl ?_
  refine L_q (Q_lenAt 1 rfl rfl) rfl rfl rfl ?_
  refine L_q (Q_lss rfl rfl) rfl rfl rfl ?_
  refine JL_nil ?_
  refine seqQ_normal ?_
  refine J_condD rfl (fun h => ?_) (fun h => ?_)
  · refine J_seq ?_
    refine J_region ?_
    refine L_q (Q_assign rfl) rfl rfl rfl ?_
    refine JL_nil ?_
    refine seqQ_normal ?_
    refine J_ret ?_
    refine seqQ_ret ?_
    have e : rightB l = false := by simp [rightB]; omega
    exact retQ_ret _ [slc tB true S l] (.cons (RV_tmp rfl) .nil) ⟨by rw [e]; rfl, rfl⟩ (Ent.re [1, 2] rfl)
  · have hl : 12 ≤ l.length := by omega
    refine J_skip ?_
    refine seqQ_normal ?_
    refine J_seq ?_
    refine J_region ?_
    refine L_q (Q_ldA 0 rfl rfl rfl) rfl rfl rfl ?_
    refine L_o rfl rfl rfl (O_call [1] [0,2] (words_ok E S l hl) rfl rfl ?_)
    rintro _ _ ⟨rfl, rfl⟩
    refine JL.norm ?_
    refine L_o rfl rfl rfl (O_alloc fun b3 => ?_)
    refine L_s rfl rfl (O_stW 0 rfl rfl rfl rfl ?_)
    refine JL.norm ?_
    refine JL_nil ?_
    refine seqQ_normal ?_
    refine J_seq ?_
    refine J_drawH [0,2,1] [0, 1, 2, 3, 5, 6] (.quiet 0 (.quiet 1 (.quiet 2 (.quiet 3 (.loud 4 (.quiet 5 (.quiet 6 .done))))))) Tryz.mixed (by kernel_rfl) (by kernel_rfl) (by repeat (first | exact retQ_noP | refine seqQ_noP ?_ | refine blockQ_noP ?_ | refine loopQ_noP ?_ | refine scopeQ_noP ?_ | (intro _ _ _ h; cases h.1))) ?_
    refine S_q (Ent.re [0,2,1] rfl) rfl (Q_ldA 0 rfl rfl rfl) rfl rfl rfl ?_
    refine S_q (Ent.re [0,2,1] rfl) rfl (Q_ldA 1 rfl rfl rfl) rfl rfl rfl ?_
    refine S_q (Ent.re [0,2,1] rfl) rfl (Q_ia (o' := 1) 1 rfl rfl rfl (by decide) (by decide)) rfl rfl rfl ?_
    refine S_q (Ent.re [0,2,1] rfl) rfl (Q_ld 0 rfl rfl rfl rfl) rfl rfl rfl ?_
    refine S_o rfl rfl rfl rfl (O_call [1] [0,2,3] (meant_ok E S l (nw l 1) hl hl2) rfl rfl ?_)
    (rintro _ _ ⟨rfl, rfl⟩; refine ⟨_, fun _ => ⟨Ent.reN [1,2,0] rfl, Ent.refl _⟩, ?_⟩)
    refine JS.norm ?_
    refine S_q (Ent.re [1,2,0] rfl) rfl (Q_geql eqg3 (EqV_arr3 _ _ _ _ _ _ 9998) rfl rfl) rfl rfl rfl ?_
    refine S_q (Ent.re [1,2,0] rfl) rfl (Q_assign rfl) rfl rfl rfl ?_
    refine S_nil ?_
    refine seqQ_normal ?_
    refine J_ret ?_
    exact retQ_ret _ [slc tB true S l] (.cons (RV_tmp rfl) .nil) ⟨by rw [right_eq l hl]; rfl, rfl⟩ (Ent.re [0, 3] rfl)

def snapAt (p : Nat) (a b : List UInt8) : HProp := hex fun S : SV => hex fun T : SV => star (cel p [S.v, T.v] 92) (star (slc tB true S a) (slc tB true T b))
theorem told_ok (E : World) (p : Nat) (S T : SV) (a b : List UInt8) (ha : a.length ≤ 100000) (hb : b.length ≤ 100000) : Does Tryz.prog E 47 [.pointer (some ⟨p, 0, none⟩)] [cel p [S.v, T.v] 92, slc tB true S a, slc tB true T b] fun v L => v = .int .i64 (told a b) ∧ L = [cel p [S.v, T.v] 92, slc tB true S a, slc tB true T b] := by
  have hra := right_ok E S a ha
  have hrb := right_ok E T b hb
  have hwa : 12 ≤ a.length ∨ rightB a = false := by by_cases h : 12 ≤ a.length; exact .inl h; exact .inr (by simp [rightB, h])
  have hwb : 12 ≤ b.length ∨ rightB b = false := by by_cases h : 12 ≤ b.length; exact .inl h; exact .inr (by simp [rightB, h])
  refine Does.of Tryz.func47 rfl Tryz.ntmps47 rfl rfl fun F => ?_
  refine J.norm ?_
  refine J_seq ?_
  refine J_region ?_
  refine L_q (Q_assign rfl) rfl rfl rfl ?_
  refine JL_nil ?_
  refine seqQ_normal ?_
  refine J_seq ?_
  refine J_region ?_
  refine L_q (Q_assign rfl) rfl rfl rfl ?_
  refine JL_nil ?_
  refine seqQ_normal ?_
  refine J_seq ?_
  refine J_seq ?_
  refine J_region ?_
  refine L_q (Q_move rfl) rfl rfl rfl ?_
  refine L_q (Q_nilCheck rfl) rfl rfl rfl ?_
  refine L_q (Q_fa0 rfl) rfl rfl rfl ?_
  refine L_q (Q_ldA 0 rfl rfl rfl) rfl rfl rfl ?_
  refine L_q (Q_move rfl) rfl rfl rfl ?_
  refine JL_nil ?_
  refine seqQ_normal ?_
  refine J_block ?_
  refine J_loop (fun k : Nat => k ≤ 2) (fun k => [(0, .pointer (some ⟨p, 0, none⟩)), (3, .int .i64 (if k = 0 then -1 else if k = 1 then (if rightB a = true then 0 else -1) else told a b)), (9, .agg #[S.v, T.v]), (10, .int .i64 (k : Int))])
    (fun _ => [cel p [S.v, T.v] 92, slc tB true S a, slc tB true T b, F]) (fun k => 2 - k) 0 (by omega) ⟨rfl, rfl, rfl, rfl, trivial⟩ (Ent.refl _) ?_
  intro k hk
  by_cases h2 : k = 2
  · subst h2
    refine J_seq ?_
    refine J_region ?_
    refine L_q (Q_lss rfl rfl) rfl rfl rfl ?_
    refine JL_nil ?_
    refine seqQ_normal ?_
    refine J_seq ?_
    refine J_condF rfl ?_
    refine J_exit ?_
    refine seqQ_exit ?_
    refine loopQ_exit ?_
    refine blockQ_hit ?_
    refine seqQ_normal ?_
    refine J_seq ?_
    refine J_region ?_
    refine L_q (Q_move rfl) rfl rfl rfl ?_
    refine L_q (Q_assign rfl) rfl rfl rfl ?_
    refine JL_nil ?_
    refine seqQ_normal ?_
    refine J_ret ?_
    exact retQ_ret _ [cel p [S.v, T.v] 92, slc tB true S a, slc tB true T b] (.cons (RV_tmp rfl) .nil) ⟨rfl, rfl⟩ (Ent.refl _)
  by_cases h1 : k = 1
  · subst h1
    cases eb : rightB b with
    | false =>
      rw [eb] at hrb
      have et : told a b = if rightB a = true then 0 else -1 := by simp [told, eb]
      refine J_seq ?_
      refine J_region ?_
      refine L_q (Q_lss rfl rfl) rfl rfl rfl ?_
      refine JL_nil ?_
      refine seqQ_normal ?_
      refine J_seq ?_
      refine J_condT rfl ?_
      refine J_skip ?_
      refine seqQ_normal ?_
      refine J_seq ?_
      refine J_block ?_
      refine J_seq ?_
      refine J_region ?_
      refine L_q (Q_move rfl) rfl rfl rfl ?_
      refine L_q (Q_aiA 1 (vs := #[T.v]) rfl rfl rfl (by decide) rfl rfl) rfl rfl rfl ?_
      refine L_o rfl rfl rfl (O_alloc fun b5 => ?_)
      refine L_q (Q_assign rfl) rfl rfl rfl ?_
      refine L_s rfl rfl (O_stW 0 rfl rfl rfl rfl ?_)
      refine JL.norm ?_
      refine JL_nil ?_
      refine seqQ_normal ?_
      refine J_seq ?_
      refine J_drawH [0,1] [0, 2, 3, 4, 5, 6, 8, 9, 10, 11, 12, 13, 14, 16, 17, 18, 19] (.quiet 0 (.loud 1 (.quiet 2 (.quiet 3 (.quiet 4 (.quiet 5 (.quiet 6 (.quiet 9 (.quiet 10 (.quiet 11 (.quiet 12 (.quiet 13 (.quiet 14 (.loud 7 (.quiet 8 (.loud 15 (.quiet 16 (.quiet 17 (.quiet 18 (.quiet 19 .done)))))))))))))))))))) Tryz.mixed (by kernel_rfl) (by kernel_rfl) (by repeat (first | exact retQ_noP | refine seqQ_noP ?_ | refine blockQ_noP ?_ | refine loopQ_noP ?_ | refine scopeQ_noP ?_ | (intro _ _ _ h; cases h.1))) ?_
      refine S_q (Ent.re [0,1] rfl) rfl (Q_ldA 0 rfl rfl rfl) rfl rfl rfl ?_
      refine S_o rfl rfl rfl rfl (O_call [3] [0,1,2,4] hrb rfl rfl ?_)
      (rintro _ _ ⟨rfl, rfl⟩; refine ⟨_, fun _ => ⟨Ent.reN [1,2] rfl, Ent.refl _⟩, ?_⟩)
      refine JS.norm ?_
      refine S_q (Ent.re [1,2] rfl) rfl (Q_move rfl) rfl rfl rfl ?_
      refine S_n (Ent.re [1,2] rfl) rfl rfl rfl rfl ?_
      refine S_n (Ent.re [1,2] rfl) rfl rfl rfl rfl ?_
      refine S_n (Ent.re [1,2] rfl) rfl rfl rfl rfl ?_
      refine S_n (Ent.re [1,2] rfl) rfl rfl rfl rfl ?_
      refine S_n (Ent.re [1,2] rfl) rfl rfl rfl rfl ?_
      refine S_n (Ent.re [1,2] rfl) rfl rfl rfl rfl ?_
      refine S_n (Ent.re [1,2] rfl) rfl rfl rfl rfl ?_
      refine S_n (Ent.re [1,2] rfl) rfl rfl rfl rfl ?_
      refine S_n (Ent.re [1,2] rfl) rfl rfl rfl rfl ?_
      refine S_n (Ent.re [1,2] rfl) rfl rfl rfl rfl ?_
      refine S_no rfl rfl rfl rfl (fun _ => (Ent.re [1,2] rfl)) ?_
      refine S_n (Ent.re [1,2] rfl) rfl rfl rfl rfl ?_
      refine S_no rfl rfl rfl rfl (fun _ => (Ent.re [1,2] rfl)) ?_
      refine S_n (Ent.re [1,2] rfl) rfl rfl rfl rfl ?_
      refine S_n (Ent.re [1,2] rfl) rfl rfl rfl rfl ?_
      refine S_n (Ent.re [1,2] rfl) rfl rfl rfl rfl ?_
      refine S_q (Ent.re [1,2] rfl) rfl (Q_pickF rfl rfl) rfl rfl rfl ?_
      refine S_nil ?_
      refine seqQ_normal ?_
      refine J_condF rfl ?_
      refine J_skip ?_
      refine blockQ_normal ?_
      refine seqQ_normal ?_
      refine J_region ?_
      refine L_q (Q_add rfl rfl (by first | exact IntWalk.i64_in _ (by omega) | exact IntWalk.u8_in _ (by omega) | exact IntWalk.u32_in _ (by omega) | exact IntWalk.u64_in _ (by omega) | rfl)) rfl rfl rfl ?_
      refine L_q (Q_move rfl) rfl rfl rfl ?_
      refine JL_nil ?_
      exact loopQ_normal 2 (by omega) (by omega) ⟨rfl, by rw [et]; rfl, rfl, rfl, trivial⟩ (Ent.re [2, 3, 0, 4] rfl)
    | true =>
      rw [eb] at hrb
      have hb12 : 12 ≤ b.length := by rcases hwb with h | h; exact h; rw [eb] at h; cases h
      cases ea : rightB a with
      | false =>
        have et : told a b = 1 := by simp [told, eb, ea]
        refine J_seq ?_
        refine J_region ?_
        refine L_q (Q_lss rfl rfl) rfl rfl rfl ?_
        refine JL_nil ?_
        refine seqQ_normal ?_
        refine J_seq ?_
        refine J_condT rfl ?_
        refine J_skip ?_
        refine seqQ_normal ?_
        refine J_seq ?_
        refine J_block ?_
        refine J_seq ?_
        refine J_region ?_
        refine L_q (Q_move rfl) rfl rfl rfl ?_
        refine L_q (Q_aiA 1 (vs := #[T.v]) rfl rfl rfl (by decide) rfl rfl) rfl rfl rfl ?_
        refine L_o rfl rfl rfl (O_alloc fun b5 => ?_)
        refine L_q (Q_assign rfl) rfl rfl rfl ?_
        refine L_s rfl rfl (O_stW 0 rfl rfl rfl rfl ?_)
        refine JL.norm ?_
        refine JL_nil ?_
        refine seqQ_normal ?_
        refine J_seq ?_
        refine J_drawH [0,1] [0, 2, 3, 4, 5, 6, 8, 9, 10, 11, 12, 13, 14, 16, 17, 18, 19] (.quiet 0 (.loud 1 (.quiet 2 (.quiet 3 (.quiet 4 (.quiet 5 (.quiet 6 (.quiet 9 (.quiet 10 (.quiet 11 (.quiet 12 (.quiet 13 (.quiet 14 (.loud 7 (.quiet 8 (.loud 15 (.quiet 16 (.quiet 17 (.quiet 18 (.quiet 19 .done)))))))))))))))))))) Tryz.mixed (by kernel_rfl) (by kernel_rfl) (by repeat (first | exact retQ_noP | refine seqQ_noP ?_ | refine blockQ_noP ?_ | refine loopQ_noP ?_ | refine scopeQ_noP ?_ | (intro _ _ _ h; cases h.1))) ?_
        refine S_q (Ent.re [0,1] rfl) rfl (Q_ldA 0 rfl rfl rfl) rfl rfl rfl ?_
        refine S_o rfl rfl rfl rfl (O_call [3] [0,1,2,4] hrb rfl rfl ?_)
        (rintro _ _ ⟨rfl, rfl⟩; refine ⟨_, fun _ => ⟨Ent.reN [1,2] rfl, Ent.refl _⟩, ?_⟩)
        refine JS.norm ?_
        refine S_q (Ent.re [1,2] rfl) rfl (Q_move rfl) rfl rfl rfl ?_
        refine S_q (Ent.re [1,2] rfl) rfl (Q_move rfl) rfl rfl rfl ?_
        refine S_q (Ent.re [1,2] rfl) rfl ((Q_lss rfl rfl).as (v' := .bool true) (congrArg Value.bool (decide_eq_true (by simp)))) rfl rfl rfl ?_
        refine S_q (Ent.re [1,2] rfl) rfl (Q_move rfl) rfl rfl rfl ?_
        refine S_n (Ent.re [1,2] rfl) rfl rfl rfl rfl ?_
        refine S_n (Ent.re [1,2] rfl) rfl rfl rfl rfl ?_
        refine S_n (Ent.re [1,2] rfl) rfl rfl rfl rfl ?_
        refine S_n (Ent.re [1,2] rfl) rfl rfl rfl rfl ?_
        refine S_n (Ent.re [1,2] rfl) rfl rfl rfl rfl ?_
        refine S_n (Ent.re [1,2] rfl) rfl rfl rfl rfl ?_
        refine S_n (Ent.re [1,2] rfl) rfl rfl rfl rfl ?_
        refine S_no rfl rfl rfl rfl (fun _ => (Ent.re [1,2] rfl)) ?_
        refine S_n (Ent.re [1,2] rfl) rfl rfl rfl rfl ?_
        refine S_no rfl rfl rfl rfl (fun _ => (Ent.re [1,2] rfl)) ?_
        refine S_n (Ent.re [1,2] rfl) rfl rfl rfl rfl ?_
        refine S_n (Ent.re [1,2] rfl) rfl rfl rfl rfl ?_
        refine S_q (Ent.re [1,2] rfl) rfl (Q_pickT rfl rfl) rfl rfl rfl ?_
        refine S_q (Ent.re [1,2] rfl) rfl (Q_pickT rfl rfl) rfl rfl rfl ?_
        refine S_nil ?_
        refine seqQ_normal ?_
        refine J_condT rfl ?_
        refine J_region ?_
        refine L_q (Q_move rfl) rfl rfl rfl ?_
        refine L_q (Q_assign rfl) rfl rfl rfl ?_
        refine JL_nil ?_
        refine blockQ_normal ?_
        refine seqQ_normal ?_
        refine J_region ?_
        refine L_q (Q_add rfl rfl (by first | exact IntWalk.i64_in _ (by omega) | exact IntWalk.u8_in _ (by omega) | exact IntWalk.u32_in _ (by omega) | exact IntWalk.u64_in _ (by omega) | rfl)) rfl rfl rfl ?_
        refine L_q (Q_move rfl) rfl rfl rfl ?_
        refine JL_nil ?_
        exact loopQ_normal 2 (by omega) (by omega) ⟨rfl, by rw [et]; rfl, rfl, rfl, trivial⟩ (Ent.re [2, 3, 0, 4] rfl)
      | true =>
        have ha12 : 12 ≤ a.length := by rcases hwa with h | h; exact h; rw [ea] at h; cases h
        refine J_seq ?_
        refine J_region ?_
        refine L_q (Q_lss rfl rfl) rfl rfl rfl ?_
        refine JL_nil ?_
        refine seqQ_normal ?_
        refine J_seq ?_
        refine J_condT rfl ?_
        refine J_skip ?_
        refine seqQ_normal ?_
        refine J_seq ?_
        refine J_block ?_
        refine J_seq ?_
        refine J_region ?_
        refine L_q (Q_move rfl) rfl rfl rfl ?_
        refine L_q (Q_aiA 1 (vs := #[T.v]) rfl rfl rfl (by decide) rfl rfl) rfl rfl rfl ?_
        refine L_o rfl rfl rfl (O_alloc fun b5 => ?_)
        refine L_q (Q_assign rfl) rfl rfl rfl ?_
        refine L_s rfl rfl (O_stW 0 rfl rfl rfl rfl ?_)
        refine JL.norm ?_
        refine JL_nil ?_
        refine seqQ_normal ?_
        refine J_seq ?_
        refine J_drawH [0,1] [0, 2, 3, 4, 5, 6, 8, 9, 10, 11, 12, 13, 14, 16, 17, 18, 19] (.quiet 0 (.loud 1 (.quiet 2 (.quiet 3 (.quiet 4 (.quiet 5 (.quiet 6 (.quiet 9 (.quiet 10 (.quiet 11 (.quiet 12 (.quiet 13 (.quiet 14 (.loud 7 (.quiet 8 (.loud 15 (.quiet 16 (.quiet 17 (.quiet 18 (.quiet 19 .done)))))))))))))))))))) Tryz.mixed (by kernel_rfl) (by kernel_rfl) (by repeat (first | exact retQ_noP | refine seqQ_noP ?_ | refine blockQ_noP ?_ | refine loopQ_noP ?_ | refine scopeQ_noP ?_ | (intro _ _ _ h; cases h.1))) ?_
        refine S_q (Ent.re [0,1] rfl) rfl (Q_ldA 0 rfl rfl rfl) rfl rfl rfl ?_
        refine S_o rfl rfl rfl rfl (O_call [3] [0,1,2,4] hrb rfl rfl ?_)
        (rintro _ _ ⟨rfl, rfl⟩; refine ⟨_, fun _ => ⟨Ent.reN [1,2] rfl, Ent.refl _⟩, ?_⟩)
        refine JS.norm ?_
        refine S_q (Ent.re [1,2] rfl) rfl (Q_move rfl) rfl rfl rfl ?_
        refine S_q (Ent.re [1,2] rfl) rfl (Q_move rfl) rfl rfl rfl ?_
        refine S_q (Ent.re [1,2] rfl) rfl ((Q_lss rfl rfl).as (v' := .bool false) (congrArg Value.bool (decide_eq_false (by simp)))) rfl rfl rfl ?_
        refine S_q (Ent.re [1,2] rfl) rfl (Q_move rfl) rfl rfl rfl ?_
        refine S_q (Ent.re [1,2] rfl) rfl (Q_ldA 0 rfl rfl rfl) rfl rfl rfl ?_
        refine S_q (Ent.re [1,2] rfl) rfl (Q_move rfl) rfl rfl rfl ?_
        refine S_q (Ent.re [1,2] rfl) rfl (Q_move rfl) rfl rfl rfl ?_
        refine S_q (Ent.re [1,2] rfl) rfl (Q_nilCheck rfl) rfl rfl rfl ?_
        refine S_q (Ent.re [1,2] rfl) rfl (Q_fa0 rfl) rfl rfl rfl ?_
        refine S_q (Ent.re [1,2] rfl) rfl (Q_ia (o' := 0) 0 rfl rfl rfl (by decide) (by decide)) rfl rfl rfl ?_
        refine S_q (Ent.re [1,2] rfl) rfl (Q_ldA 1 rfl rfl rfl) rfl rfl rfl ?_
        refine S_o rfl rfl rfl rfl (O_call [0] [1,2,3,4] (words_ok E T b hb12) rfl rfl ?_)
        (rintro _ _ ⟨rfl, rfl⟩; refine ⟨_, fun _ => ⟨Ent.reN [1,2] rfl, Ent.refl _⟩, ?_⟩)
        refine JS.norm ?_
        refine S_q (Ent.re [1,2] rfl) rfl (Q_aiS 1 rfl rfl rfl (by decide) rfl rfl) rfl rfl rfl ?_
        refine S_o rfl rfl rfl rfl (O_call [3] [0,1,2,4] (words_ok E S a ha12) rfl rfl ?_)
        (rintro _ _ ⟨rfl, rfl⟩; refine ⟨_, fun _ => ⟨Ent.reN [2,3] rfl, Ent.refl _⟩, ?_⟩)
        refine JS.norm ?_
        refine S_q (Ent.re [2,3] rfl) rfl (Q_aiS 1 rfl rfl rfl (by decide) rfl rfl) rfl rfl rfl ?_
        refine S_q (Ent.re [2,3] rfl) rfl (Q_gtr rfl rfl) rfl rfl rfl ?_
        refine S_q (Ent.re [2,3] rfl) rfl (Q_pickF rfl rfl) rfl rfl rfl ?_
        refine S_q (Ent.re [2,3] rfl) rfl (Q_pickT rfl rfl) rfl rfl rfl ?_
        refine S_nil ?_
        refine seqQ_normal ?_
        refine J_condD rfl (fun h3 => ?_) (fun h3 => ?_)
        · have et : told a b = 1 := by simp [told, eb, ea]; omega
          refine J_region ?_
          refine L_q (Q_move rfl) rfl rfl rfl ?_
          refine L_q (Q_assign rfl) rfl rfl rfl ?_
          refine JL_nil ?_
          refine blockQ_normal ?_
          refine seqQ_normal ?_
          refine J_region ?_
          refine L_q (Q_add rfl rfl (by first | exact IntWalk.i64_in _ (by omega) | exact IntWalk.u8_in _ (by omega) | exact IntWalk.u32_in _ (by omega) | exact IntWalk.u64_in _ (by omega) | rfl)) rfl rfl rfl ?_
          refine L_q (Q_move rfl) rfl rfl rfl ?_
          refine JL_nil ?_
          exact loopQ_normal 2 (by omega) (by omega) ⟨rfl, by rw [et]; rfl, rfl, rfl, trivial⟩ (Ent.re [3, 0, 1, 4] rfl)
        · have et : told a b = 0 := by simp [told, eb, ea]; omega
          refine J_skip ?_
          refine blockQ_normal ?_
          refine seqQ_normal ?_
          refine J_region ?_
          refine L_q (Q_add rfl rfl (by first | exact IntWalk.i64_in _ (by omega) | exact IntWalk.u8_in _ (by omega) | exact IntWalk.u32_in _ (by omega) | exact IntWalk.u64_in _ (by omega) | rfl)) rfl rfl rfl ?_
          refine L_q (Q_move rfl) rfl rfl rfl ?_
          refine JL_nil ?_
          exact loopQ_normal 2 (by omega) (by omega) ⟨rfl, by rw [et]; rfl, rfl, rfl, trivial⟩ (Ent.re [3, 0, 1, 4] rfl)
  · obtain rfl : k = 0 := by omega
    cases ea : rightB a with
    | false =>
      rw [ea] at hra
      refine J_seq ?_
      refine J_region ?_
      refine L_q (Q_lss rfl rfl) rfl rfl rfl ?_
      refine JL_nil ?_
      refine seqQ_normal ?_
      refine J_seq ?_
      refine J_condT rfl ?_
      refine J_skip ?_
      refine seqQ_normal ?_
      refine J_seq ?_
      refine J_block ?_
      refine J_seq ?_
      refine J_region ?_
      refine L_q (Q_move rfl) rfl rfl rfl ?_
      refine L_q (Q_aiA 0 (vs := #[S.v]) rfl rfl rfl (by decide) rfl rfl) rfl rfl rfl ?_
      refine L_o rfl rfl rfl (O_alloc fun b5 => ?_)
      refine L_q (Q_assign rfl) rfl rfl rfl ?_
      refine L_s rfl rfl (O_stW 0 rfl rfl rfl rfl ?_)
      refine JL.norm ?_
      refine JL_nil ?_
      refine seqQ_normal ?_
      refine J_seq ?_
      refine J_drawH [0,1] [0, 2, 3, 4, 5, 6, 8, 9, 10, 11, 12, 13, 14, 16, 17, 18, 19] (.quiet 0 (.loud 1 (.quiet 2 (.quiet 3 (.quiet 4 (.quiet 5 (.quiet 6 (.quiet 9 (.quiet 10 (.quiet 11 (.quiet 12 (.quiet 13 (.quiet 14 (.loud 7 (.quiet 8 (.loud 15 (.quiet 16 (.quiet 17 (.quiet 18 (.quiet 19 .done)))))))))))))))))))) Tryz.mixed (by kernel_rfl) (by kernel_rfl) (by repeat (first | exact retQ_noP | refine seqQ_noP ?_ | refine blockQ_noP ?_ | refine loopQ_noP ?_ | refine scopeQ_noP ?_ | (intro _ _ _ h; cases h.1))) ?_
      refine S_q (Ent.re [0,1] rfl) rfl (Q_ldA 0 rfl rfl rfl) rfl rfl rfl ?_
      refine S_o rfl rfl rfl rfl (O_call [2] [0,1,3,4] hra rfl rfl ?_)
      (rintro _ _ ⟨rfl, rfl⟩; refine ⟨_, fun _ => ⟨Ent.reN [1,2] rfl, Ent.refl _⟩, ?_⟩)
      refine JS.norm ?_
      refine S_q (Ent.re [1,2] rfl) rfl (Q_move rfl) rfl rfl rfl ?_
      refine S_n (Ent.re [1,2] rfl) rfl rfl rfl rfl ?_
      refine S_n (Ent.re [1,2] rfl) rfl rfl rfl rfl ?_
      refine S_n (Ent.re [1,2] rfl) rfl rfl rfl rfl ?_
      refine S_n (Ent.re [1,2] rfl) rfl rfl rfl rfl ?_
      refine S_n (Ent.re [1,2] rfl) rfl rfl rfl rfl ?_
      refine S_n (Ent.re [1,2] rfl) rfl rfl rfl rfl ?_
      refine S_n (Ent.re [1,2] rfl) rfl rfl rfl rfl ?_
      refine S_n (Ent.re [1,2] rfl) rfl rfl rfl rfl ?_
      refine S_n (Ent.re [1,2] rfl) rfl rfl rfl rfl ?_
      refine S_n (Ent.re [1,2] rfl) rfl rfl rfl rfl ?_
      refine S_no rfl rfl rfl rfl (fun _ => (Ent.re [1,2] rfl)) ?_
      refine S_n (Ent.re [1,2] rfl) rfl rfl rfl rfl ?_
      refine S_no rfl rfl rfl rfl (fun _ => (Ent.re [1,2] rfl)) ?_
      refine S_n (Ent.re [1,2] rfl) rfl rfl rfl rfl ?_
      refine S_n (Ent.re [1,2] rfl) rfl rfl rfl rfl ?_
      refine S_n (Ent.re [1,2] rfl) rfl rfl rfl rfl ?_
      refine S_q (Ent.re [1,2] rfl) rfl (Q_pickF rfl rfl) rfl rfl rfl ?_
      refine S_nil ?_
      refine seqQ_normal ?_
      refine J_condF rfl ?_
      refine J_skip ?_
      refine blockQ_normal ?_
      refine seqQ_normal ?_
      refine J_region ?_
      refine L_q (Q_add rfl rfl (by first | exact IntWalk.i64_in _ (by omega) | exact IntWalk.u8_in _ (by omega) | exact IntWalk.u32_in _ (by omega) | exact IntWalk.u64_in _ (by omega) | rfl)) rfl rfl rfl ?_
      refine L_q (Q_move rfl) rfl rfl rfl ?_
      refine JL_nil ?_
      exact loopQ_normal 1 (by omega) (by omega) ⟨rfl, by rfl, rfl, rfl, trivial⟩ (Ent.re [2, 0, 3, 4] rfl)
    | true =>
      rw [ea] at hra
      refine J_seq ?_
      refine J_region ?_
      refine L_q (Q_lss rfl rfl) rfl rfl rfl ?_
      refine JL_nil ?_
      refine seqQ_normal ?_
      refine J_seq ?_
      refine J_condT rfl ?_
      refine J_skip ?_
      refine seqQ_normal ?_
      refine J_seq ?_
      refine J_block ?_
      refine J_seq ?_
      refine J_region ?_
      refine L_q (Q_move rfl) rfl rfl rfl ?_
      refine L_q (Q_aiA 0 (vs := #[S.v]) rfl rfl rfl (by decide) rfl rfl) rfl rfl rfl ?_
      refine L_o rfl rfl rfl (O_alloc fun b5 => ?_)
      refine L_q (Q_assign rfl) rfl rfl rfl ?_
      refine L_s rfl rfl (O_stW 0 rfl rfl rfl rfl ?_)
      refine JL.norm ?_
      refine JL_nil ?_
      refine seqQ_normal ?_
      refine J_seq ?_
      refine J_drawH [0,1] [0, 2, 3, 4, 5, 6, 8, 9, 10, 11, 12, 13, 14, 16, 17, 18, 19] (.quiet 0 (.loud 1 (.quiet 2 (.quiet 3 (.quiet 4 (.quiet 5 (.quiet 6 (.quiet 9 (.quiet 10 (.quiet 11 (.quiet 12 (.quiet 13 (.quiet 14 (.loud 7 (.quiet 8 (.loud 15 (.quiet 16 (.quiet 17 (.quiet 18 (.quiet 19 .done)))))))))))))))))))) Tryz.mixed (by kernel_rfl) (by kernel_rfl) (by repeat (first | exact retQ_noP | refine seqQ_noP ?_ | refine blockQ_noP ?_ | refine loopQ_noP ?_ | refine scopeQ_noP ?_ | (intro _ _ _ h; cases h.1))) ?_
      refine S_q (Ent.re [0,1] rfl) rfl (Q_ldA 0 rfl rfl rfl) rfl rfl rfl ?_
      refine S_o rfl rfl rfl rfl (O_call [2] [0,1,3,4] hra rfl rfl ?_)
      (rintro _ _ ⟨rfl, rfl⟩; refine ⟨_, fun _ => ⟨Ent.reN [1,2] rfl, Ent.refl _⟩, ?_⟩)
      refine JS.norm ?_
      refine S_q (Ent.re [1,2] rfl) rfl (Q_move rfl) rfl rfl rfl ?_
      refine S_q (Ent.re [1,2] rfl) rfl (Q_move rfl) rfl rfl rfl ?_
      refine S_q (Ent.re [1,2] rfl) rfl ((Q_lss rfl rfl).as (v' := .bool true) (congrArg Value.bool (decide_eq_true (by simp)))) rfl rfl rfl ?_
      refine S_q (Ent.re [1,2] rfl) rfl (Q_move rfl) rfl rfl rfl ?_
      refine S_n (Ent.re [1,2] rfl) rfl rfl rfl rfl ?_
      refine S_n (Ent.re [1,2] rfl) rfl rfl rfl rfl ?_
      refine S_n (Ent.re [1,2] rfl) rfl rfl rfl rfl ?_
      refine S_n (Ent.re [1,2] rfl) rfl rfl rfl rfl ?_
      refine S_n (Ent.re [1,2] rfl) rfl rfl rfl rfl ?_
      refine S_n (Ent.re [1,2] rfl) rfl rfl rfl rfl ?_
      refine S_n (Ent.re [1,2] rfl) rfl rfl rfl rfl ?_
      refine S_no rfl rfl rfl rfl (fun _ => (Ent.re [1,2] rfl)) ?_
      refine S_n (Ent.re [1,2] rfl) rfl rfl rfl rfl ?_
      refine S_no rfl rfl rfl rfl (fun _ => (Ent.re [1,2] rfl)) ?_
      refine S_n (Ent.re [1,2] rfl) rfl rfl rfl rfl ?_
      refine S_n (Ent.re [1,2] rfl) rfl rfl rfl rfl ?_
      refine S_q (Ent.re [1,2] rfl) rfl (Q_pickT rfl rfl) rfl rfl rfl ?_
      refine S_q (Ent.re [1,2] rfl) rfl (Q_pickT rfl rfl) rfl rfl rfl ?_
      refine S_nil ?_
      refine seqQ_normal ?_
      refine J_condT rfl ?_
      refine J_region ?_
      refine L_q (Q_move rfl) rfl rfl rfl ?_
      refine L_q (Q_assign rfl) rfl rfl rfl ?_
      refine JL_nil ?_
      refine blockQ_normal ?_
      refine seqQ_normal ?_
      refine J_region ?_
      refine L_q (Q_add rfl rfl (by first | exact IntWalk.i64_in _ (by omega) | exact IntWalk.u8_in _ (by omega) | exact IntWalk.u32_in _ (by omega) | exact IntWalk.u64_in _ (by omega) | rfl)) rfl rfl rfl ?_
      refine L_q (Q_move rfl) rfl rfl rfl ?_
      refine JL_nil ?_
      exact loopQ_normal 1 (by omega) (by omega) ⟨rfl, by rfl, rfl, rfl, trivial⟩ (Ent.re [2, 0, 3, 4] rfl)
end Go.Proofs
/- What is written into slots, and told of them. -/
set_option autoImplicit false
namespace Go.Proofs
open Go.SL
attribute [local irreducible] J JL QOp JOp seqQ blockQ loopQ retQ slc cel hex star pur stars Does RV Ent pAt
theorem four_ok (E : World) (n : Nat) : Does Tryz.prog E 49 [.int .u32 (n : Int)] [] fun v L => ∃ S : SV, v = S.v ∧ L = [slc tB true S (four n)] := by
  refine Does.of Tryz.func49 rfl Tryz.ntmps49 rfl rfl fun F => ?_
  refine J.norm ?_
  refine J_seq ?_
  refine J_region ?_
  refine L_q (Q_assign rfl) rfl rfl rfl ?_
  refine JL_nil ?_
  refine seqQ_normal ?_
  refine J_seq ?_
  refine J_region ?_
  refine L_q (Q_move rfl) rfl rfl rfl ?_
  refine L_q (Q_shrN n 24 rfl rfl rfl rfl (by decide)) rfl rfl rfl ?_
  refine L_q (Q_cvtN (n / 2 ^ 24) rfl rfl) rfl rfl rfl ?_
  refine L_q (Q_move rfl) rfl rfl rfl ?_
  refine L_q (Q_shrN n 16 rfl rfl rfl rfl (by decide)) rfl rfl rfl ?_
  refine L_q (Q_cvtN (n / 2 ^ 16) rfl rfl) rfl rfl rfl ?_
  refine L_q (Q_move rfl) rfl rfl rfl ?_
  refine L_q (Q_shrN n 8 rfl rfl rfl rfl (by decide)) rfl rfl rfl ?_
  refine L_q (Q_cvtN (n / 2 ^ 8) rfl rfl) rfl rfl rfl ?_
  refine L_q (Q_move rfl) rfl rfl rfl ?_
  refine L_q (Q_cvtN n rfl rfl) rfl rfl rfl ?_
  refine L_o rfl rfl rfl (O_litP (τ := tB) (m := 4) (sz := 1) (four n) rfl rfl rfl rfl rfl rfl (by decide) (fun S => ?_))
  refine JL.norm ?_
  refine L_q (Q_assign rfl) rfl rfl rfl ?_
  refine JL_nil ?_
  refine seqQ_normal ?_
  refine J_ret ?_
  exact retQ_ret _ [slc tB true S (four n)] (.cons (RV_tmp rfl) .nil) ⟨S, rfl, rfl⟩ (Ent.refl _)
theorem snew_ok (E : World) : Does Tryz.prog E 22 [] [] fun v L => ∃ p, v = .pointer (some ⟨p, 0, none⟩) ∧ L = [cel p [SV.nil.v, SV.nil.v] 92, slc tB true SV.nil [], slc tB true SV.nil []] := by
  refine Does.of Tryz.func22 rfl Tryz.ntmps22 rfl rfl fun F => ?_
  refine J.norm ?_
  refine J_seq ?_
  refine J_region ?_
  refine L_q (Q_assign rfl) rfl rfl rfl ?_
  refine JL_nil ?_
  refine seqQ_normal ?_
  refine J_seq ?_
  refine J_region ?_
  refine L_q (Q_build rfl) rfl rfl rfl ?_
  refine L_o rfl rfl rfl (O_box rfl fun b2 => ?_)
  refine L_q (Q_assign rfl) rfl rfl rfl ?_
  refine JL_nil ?_
  refine seqQ_normal ?_
  refine J_ret ?_
  refine retQ_ret _ [cel b2 [SV.nil.v, SV.nil.v] 92, slc tB true SV.nil [], slc tB true SV.nil []] (.cons (RV_tmp rfl) .nil) ⟨b2, rfl, rfl⟩ ?_
  exact (Ent.mk fun _ _ h => ((h.lay_nil tB true).lay_nil tB true : Sat _ _ (slc tB true SV.nil [] :: slc tB true SV.nil [] :: _))).trans (Ent.re [2, 0, 1, 3] rfl)

/-- What is written. -/
def wrote (a b body : List UInt8) (upto : Int) : List UInt8 :=
  let g := if told a b = 1 then nw b 1 else if told a b = 0 then nw a 1 else 0
  let t := four ((g + 1) % 2 ^ 32) ++ four (body.length % 2 ^ 32) ++ body
  let u := four (crc t) ++ t
  if 0 ≤ upto ∧ upto < (u.length : Int) then u.take upto.toNat else u
theorem told_cases (a b : List UInt8) : (told a b = 1 ∧ rightB b = true) ∨ (told a b = 0 ∧ rightB a = true) ∨ told a b = -1 := by
  unfold told
  split
  · rename_i h; exact .inl ⟨rfl, h.1⟩
  · split
    · rename_i h; exact .inr (.inl ⟨rfl, h⟩)
    · exact .inr (.inr rfl)
theorem right_long {l : List UInt8} (h : rightB l = true) : 12 ≤ l.length := by
  simp only [rightB, Bool.and_eq_true, decide_eq_true_eq] at h; exact h.1
/-- What the slots are behind a write; the error. -/
def doW (a b body : List UInt8) (upto : Int) : List UInt8 × List UInt8 × Int :=
  if 32768 < body.length then (a, b, 2) else if told a b = 0 then (a, wrote a b body upto, 0) else (wrote a b body upto, b, 0)
end Go.Proofs
