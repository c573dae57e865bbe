/- A pipe: how it lies; texts compared, copied; what was told is dropped. -/
import Derived.Lib.SliceRun
import Derived.Test.YtmmkepghmmbppaaSl17
import Derived.Test.YtmmkepghmmbppaaPip1
set_option autoImplicit false
namespace Go.SL
theorem Q_slnil {P : Program} {E : World} {n : Nat} {ρ : Env} {L : List HProp} {dst : Option Tmp} {ty : TypeId} {pos : String} {after : Array Edge} {g : Option (Nat × Bool)} {t t' e : Nat} {x y : Operand} {S : SV} [u : TyU P t (.slice e)] (hx : ρ.ev x = some S.v) (hy : ρ.ev y = some (.slice none 0 0)) : QOp P E n ⟨dst, .binOp .eql t x y t', ty, pos, after, g⟩ ρ L (.bool S.a.isNone) := fun c w ha _ =>
  run_binOp c w ha hx hy (by simp [eqGuard]) (Lib.run_eql_slice_nil w t e S.a S.n S.c 0 0 u.h)
theorem Sat.slcB {α : Type} {τ : Ty α} {E w : World} {L : List HProp} (h : Sat E w L) (i : Nat) {S : SV} {l : List α} (hi : L[i]? = some (slc τ true S l)) : 0 < S.c → ∃ g o, S.a = some ⟨g, o, none⟩ := fun hc => by
  obtain ⟨p, ⟨_, _, hp⟩, _⟩ := h.at hi
  rcases hp with ⟨_, h0⟩ | ⟨_, _, hf0, _⟩ | ⟨g, o, ha, _⟩
  · omega
  · cases hf0
  · exact ⟨g, o, ha⟩
/-- A slice's beginning. -/
theorem Ent.shrink {α : Type} {τ : Ty α} {L : List HProp} (i : Nat) {g o n c : Nat} {l : List α} (hi : L[i]? = some (slc τ true ⟨some ⟨g, o, none⟩, n, c⟩ l)) (k : Nat) (hk : k ≤ l.length) : Ent L (L.set i (slc τ true ⟨some ⟨g, o, none⟩, k, c⟩ (l.take k))) := fun E w h => by
  have h1 := h.sub_at i hi 0 k (Nat.zero_le _) hk
  have e : (SV.sub ⟨some ⟨g, o, none⟩, n, c⟩ τ.sz 0 k) = ⟨some ⟨g, o, none⟩, k, c⟩ := by simp [SV.sub, addr_add]
  rw [e, List.drop_zero] at h1
  exact h1
end Go.SL
namespace Go.Proofs
open Go.SL
abbrev bdV (b : Bd) : List Value := [.int .i64 b.seq, str b.text, .bool b.fresh]
def tBd : Ty Bd := ⟨53, 3, bdV, fun _ => rfl, by decide, fun a v hv => by simp [bdV] at hv; rcases hv with rfl | rfl | rfl <;> rfl⟩
instance : TyI Try.prog tBd.e 3 (.agg #[.int .i64 0, .string ⟨#[]⟩, .bool false]) 32 := inferInstanceAs (TyI Try.prog 53 3 (.agg #[.int .i64 0, .string ⟨#[]⟩, .bool false]) 32)
instance : TyU Try.prog 49 (.slice tBd.e) := inferInstanceAs (TyU Try.prog 49 (.slice 53))
def mH : MTy Int By := ⟨3, 9, .int .i64, fun z => .int .i64 z, fun s => str s, fun a b => by simp only [Instr.sameNow, if_true, Option.some.injEq]; by_cases h : a = b <;> simp [h], fun a => by simp [Instr.sameBits], .inl ⟨.i64, rfl⟩⟩
instance : TyU Try.prog mH.kt mH.kd := inferInstanceAs (TyU Try.prog 3 (.int .i64))
instance : TyI Try.prog mH.vt 1 (.string ⟨#[]⟩) 16 := inferInstanceAs (TyI Try.prog 9 1 (.string ⟨#[]⟩) 16)
instance : TyU Try.prog 48 (.map mH.kt mH.vt) := inferInstanceAs (TyU Try.prog 48 (.map 3 9))
abbrev pipeC (p w t r : Nat) (S T : SV) (room sent : Nat) (owe : Bool) : HProp := cel p [.pointer (some ⟨w, 0, none⟩), .int .i64 (room : Int), .int .i64 (sent : Int), S.v, .pointer (some ⟨t, 0, none⟩), .map (some r), T.v, .bool owe] 51
theorem texts3_len (a b c : By) : (texts [a, b, c]).length = 12 + a.length + b.length + c.length := by simp [texts, four]; omega
theorem take_set_lt {α : Type} {l : List α} {k : Nat} {a : α} (h : k < l.length) : (l.set k a).take (k + 1) = l.take k ++ [a] := by
  rw [List.take_succ_eq_append_getElem (by simpa using h), List.getElem_set_self]
  congr 1
  rw [List.take_set_of_le (Nat.le_refl _)]
def idxD (l : List Bd) (u : Int) : Nat := l.findIdx fun b => decide (b.seq < u)
theorem ackO_succ (l : List Bd) (u : Int) (k : Nat) (h : k < l.length) : ackO (l.take (k + 1)) u = ackO (l.take k) u ++ if l[k].seq < u then [] else [l[k]] := by
  unfold ackO
  rw [List.take_succ_eq_append_getElem h, List.filter_append]
  congr 1
  by_cases e : l[k].seq < u
  · simp [e]
  · rw [if_neg e]; simp; omega
attribute [local irreducible] J JL QOp JOp seqQ blockQ loopQ retQ slc cel hex star pur stars Does RV Ent pAt scopeQ
theorem rtexts_ok (E : World) (f f' : Bool) (S S' : SV) (l m : List By) (hl : l.length ≤ 100000000) : Does Try.prog E 13 [S.v, S'.v] [slc tS f S l, slc tS f' S' m] fun v L => v = .bool (decide (l = m)) ∧ L = [slc tS f S l, slc tS f' S' m] := by
  refine Does.of Try.func13 rfl Try.ntmps13 rfl rfl fun F => ?_
  refine J.norm ?_
  refine J_seq ?_
  refine J_region ?_
  refine L_q (Q_assign rfl) rfl rfl rfl ?_
  refine JL_nil ?_
  refine seqQ_normal ?_
  refine J_seq ?_
  refine J_seq ?_
  refine J_region ?_
  refine L_q (Q_move rfl) rfl rfl rfl ?_
  refine L_q (Q_lenAt 0 rfl rfl) rfl rfl rfl ?_
  refine L_q (Q_move rfl) rfl rfl rfl ?_
  refine L_q (Q_lenAt 1 rfl rfl) rfl rfl rfl ?_
  refine L_q (Q_neq rfl rfl) rfl rfl rfl ?_
  refine JL_nil ?_
  refine seqQ_normal ?_
  refine J_condD rfl (fun h => ?_) (fun h => ?_)
  · have e : decide (l = m) = false := decide_eq_false (by rintro rfl; exact h rfl)
    rw [e]
    refine J_seq ?_
    refine J_region ?_
    refine L_q (Q_assign rfl) rfl rfl rfl ?_
    refine JL_nil ?_
    refine seqQ_normal ?_
    refine J_ret ?_
    refine seqQ_ret ?_
    exact retQ_ret _ [slc tS f S l, slc tS f' S' m] (.cons (RV_tmp rfl) .nil) ⟨rfl, rfl⟩ (Ent.refl _)
  have hlm : l.length = m.length := by omega
  refine J_skip ?_
  refine seqQ_normal ?_
  refine J_seq ?_
  refine J_seq ?_
  refine J_region ?_
  refine L_q (Q_assign rfl) rfl rfl rfl ?_
  refine JL_nil ?_
  refine seqQ_normal ?_
  refine J_block ?_
  refine J_loop (fun i : Nat => i ≤ l.length ∧ l.take i = m.take i) (fun i => [(0, S.v), (1, S'.v), (5, .int .i64 (i : Int))])
    (fun _ => [slc tS f S l, slc tS f' S' m, F]) (fun i => l.length - i) 0 ⟨by omega, rfl⟩ ⟨rfl, rfl, rfl, trivial⟩ (Ent.refl _) ?_
  rintro k ⟨hk, he⟩
  refine J_seq ?_
  refine J_seq ?_
  refine J_region ?_
  refine L_q (Q_move rfl) rfl rfl rfl ?_
  refine L_q (Q_move rfl) rfl rfl rfl ?_
  refine L_q (Q_lenAt 0 rfl rfl) rfl rfl rfl ?_
  refine L_q (Q_lss rfl rfl) rfl rfl rfl ?_
  refine JL_nil ?_
  refine seqQ_normal ?_
  refine J_condD rfl (fun h2 => ?_) (fun h2 => ?_)
  · have hl1 : k < l.length := by omega
    have hm1 : k < m.length := by omega
    by_cases hd : l[k] = m[k]
    · refine J_skip ?_
      refine seqQ_normal ?_
      refine J_seq ?_
      refine J_block ?_
      refine J_seq ?_
      refine J_drawH [0,1] [0, 1, 2, 3, 4, 5, 6, 7, 8] (.quiet 0 (.quiet 1 (.quiet 2 (.quiet 3 (.quiet 4 (.quiet 5 (.quiet 6 (.quiet 7 (.quiet 8 .done))))))))) Try.mixed (by kernel_rfl) (by kernel_rfl) (by repeat (first | exact retQ_noP | refine seqQ_noP ?_ | refine blockQ_noP ?_ | refine loopQ_noP ?_ | refine scopeQ_noP ?_ | (intro _ _ _ h; cases h.1))) ?_
      refine S_q (Ent.re [0,1] rfl) rfl (Q_move rfl) rfl rfl rfl ?_
      refine S_q (Ent.re [0,1] rfl) rfl (Q_move rfl) rfl rfl rfl ?_
      refine S_q (Ent.re [0,1] rfl) rfl (Q_ixAt 0 k rfl rfl rfl rfl hl1 rfl) rfl rfl rfl ?_
      refine S_q (Ent.re [0,1] rfl) rfl (Q_ldEAt 0 k 0 (v := str l[k]) rfl rfl rfl rfl hl1 (by decide) rfl) rfl rfl rfl ?_
      refine S_q (Ent.re [0,1] rfl) rfl (Q_move rfl) rfl rfl rfl ?_
      refine S_q (Ent.re [0,1] rfl) rfl (Q_move rfl) rfl rfl rfl ?_
      refine S_q (Ent.re [0,1] rfl) rfl (Q_ixAt 1 k rfl rfl rfl rfl hm1 rfl) rfl rfl rfl ?_
      refine S_q (Ent.re [0,1] rfl) rfl (Q_ldEAt 1 k 0 (v := str m[k]) rfl rfl rfl rfl hm1 (by decide) rfl) rfl rfl rfl ?_
      refine S_q (Ent.re [0,1] rfl) rfl ((Q_sneq rfl rfl).as (v' := .bool false) (congrArg Value.bool (decide_eq_false (by simp [hd])))) rfl rfl rfl ?_
      refine S_nil ?_
      refine seqQ_normal ?_
      refine J_condF rfl ?_
      refine J_skip ?_
      refine blockQ_normal ?_
      refine seqQ_normal ?_
      refine J_region ?_
      refine L_q (Q_move rfl) rfl rfl rfl ?_
      refine L_q (Q_add rfl rfl (by first | exact IntWalk.i64_in _ (by omega) | exact IntWalk.u8_in _ (by omega) | exact IntWalk.u32_in _ (by omega) | exact IntWalk.u64_in _ (by omega) | rfl)) rfl rfl rfl ?_
      refine L_q (Q_assign rfl) rfl rfl rfl ?_
      refine JL_nil ?_
      refine loopQ_normal (k + 1) ⟨by omega, ?_⟩ (by omega) ⟨rfl, rfl, rfl, trivial⟩ (Ent.refl _)
      rw [List.take_succ_eq_append_getElem hl1, List.take_succ_eq_append_getElem hm1, he, hd]
    · have e : decide (l = m) = false := decide_eq_false (by rintro rfl; exact hd rfl)
      rw [e]
      refine J_skip ?_
      refine seqQ_normal ?_
      refine J_seq ?_
      refine J_block ?_
      refine J_seq ?_
      refine J_drawH [0,1] [0, 1, 2, 3, 4, 5, 6, 7, 8] (.quiet 0 (.quiet 1 (.quiet 2 (.quiet 3 (.quiet 4 (.quiet 5 (.quiet 6 (.quiet 7 (.quiet 8 .done))))))))) Try.mixed (by kernel_rfl) (by kernel_rfl) (by repeat (first | exact retQ_noP | refine seqQ_noP ?_ | refine blockQ_noP ?_ | refine loopQ_noP ?_ | refine scopeQ_noP ?_ | (intro _ _ _ h; cases h.1))) ?_
      refine S_q (Ent.re [0,1] rfl) rfl (Q_move rfl) rfl rfl rfl ?_
      refine S_q (Ent.re [0,1] rfl) rfl (Q_move rfl) rfl rfl rfl ?_
      refine S_q (Ent.re [0,1] rfl) rfl (Q_ixAt 0 k rfl rfl rfl rfl hl1 rfl) rfl rfl rfl ?_
      refine S_q (Ent.re [0,1] rfl) rfl (Q_ldEAt 0 k 0 (v := str l[k]) rfl rfl rfl rfl hl1 (by decide) rfl) rfl rfl rfl ?_
      refine S_q (Ent.re [0,1] rfl) rfl (Q_move rfl) rfl rfl rfl ?_
      refine S_q (Ent.re [0,1] rfl) rfl (Q_move rfl) rfl rfl rfl ?_
      refine S_q (Ent.re [0,1] rfl) rfl (Q_ixAt 1 k rfl rfl rfl rfl hm1 rfl) rfl rfl rfl ?_
      refine S_q (Ent.re [0,1] rfl) rfl (Q_ldEAt 1 k 0 (v := str m[k]) rfl rfl rfl rfl hm1 (by decide) rfl) rfl rfl rfl ?_
      refine S_q (Ent.re [0,1] rfl) rfl ((Q_sneq rfl rfl).as (v' := .bool true) (congrArg Value.bool (decide_eq_true hd))) rfl rfl rfl ?_
      refine S_nil ?_
      refine seqQ_normal ?_
      refine J_condT rfl ?_
      refine J_seq ?_
      refine J_region ?_
      refine L_q (Q_assign rfl) rfl rfl rfl ?_
      refine JL_nil ?_
      refine seqQ_normal ?_
      refine J_ret ?_
      refine blockQ_ret ?_
      refine seqQ_ret ?_
      refine loopQ_ret ?_
      refine blockQ_ret ?_
      refine seqQ_ret ?_
      exact retQ_ret _ [slc tS f S l, slc tS f' S' m] (.cons (RV_tmp rfl) .nil) ⟨rfl, rfl⟩ (Ent.refl _)
  · obtain rfl : k = l.length := by omega
    rw [List.take_length, hlm, List.take_length] at he
    rw [decide_eq_true he]
    refine J_exit ?_
    refine seqQ_exit ?_
    refine loopQ_exit ?_
    refine blockQ_hit ?_
    refine seqQ_normal ?_
    refine J_seq ?_
    refine J_region ?_
    refine L_q (Q_assign rfl) rfl rfl rfl ?_
    refine JL_nil ?_
    refine seqQ_normal ?_
    refine J_ret ?_
    exact retQ_ret _ [slc tS f S l, slc tS f' S' m] (.cons (RV_tmp rfl) .nil) ⟨rfl, rfl⟩ (Ent.refl _)
theorem sclone_ok (E : World) (S : SV) (l : List By) (hl : l.length ≤ 100000000) : Does Try.prog E 29 [S.v] [slc tS true S l] fun v L => ∃ T : SV, v = T.v ∧ L = [slc tS true S l, slc tS true T l] := by
  refine Does.of Try.func29 rfl Try.ntmps29 rfl rfl fun F => ?_
  refine J.norm ?_
  refine J.have (p := S.n = l.length ∧ S.n ≤ S.c ∧ (0 < S.c → ∃ g o, S.a = some ⟨g, o, none⟩)) (fun w hs => ⟨(hs.rd 0 rfl).1, (hs.rd 0 rfl).2.1, hs.slcB 0 rfl⟩) fun ⟨hn, hc, ha⟩ => ?_
  refine J_seq ?_
  refine J_region ?_
  refine L_q (Q_assign rfl) rfl rfl rfl ?_
  refine JL_nil ?_
  refine seqQ_normal ?_
  refine J_seq ?_
  refine J_seq ?_
  cases h : S.a with
  | none =>
    have h0 : l = [] := List.eq_nil_of_length_eq_zero (by
      rcases Nat.eq_zero_or_pos S.c with h0 | h0
      · omega
      · obtain ⟨g, o, e⟩ := ha h0; rw [h] at e; cases e)
    subst h0
    refine J_region ?_
    refine L_q (Q_move rfl) rfl rfl rfl ?_
    refine L_q ((Q_slnil (S := S) rfl rfl).as (v' := .bool true) (by rw [h]; rfl)) rfl rfl rfl ?_
    refine JL_nil ?_
    refine seqQ_normal ?_
    refine J_condT rfl ?_
    refine J_seq ?_
    refine J_region ?_
    refine L_q (Q_assign rfl) rfl rfl rfl ?_
    refine JL_nil ?_
    refine seqQ_normal ?_
    refine J_ret ?_
    refine seqQ_ret ?_
    refine retQ_ret _ [slc tS true S [], slc tS true SV.nil []] (.cons (RV_tmp rfl) .nil) ⟨SV.nil, rfl, rfl⟩ ?_
    exact (Ent.mk fun _ _ h => (h.lay_nil tS true : Sat _ _ (slc tS true SV.nil [] :: _))).trans (Ent.re [1, 0, 2] rfl)
  | some a =>
    refine J_region ?_
    refine L_q (Q_move rfl) rfl rfl rfl ?_
    refine L_q ((Q_slnil (S := S) rfl rfl).as (v' := .bool false) (by rw [h]; rfl)) rfl rfl rfl ?_
    refine JL_nil ?_
    refine seqQ_normal ?_
    refine J_condF rfl ?_
    refine J_skip ?_
    refine seqQ_normal ?_
    refine J_seq ?_
    refine J_region ?_
    refine L_o rfl rfl rfl (O_litP (τ := tS) (m := 0) (sz := 1) [] rfl rfl rfl rfl rfl rfl (by decide) (fun U => ?_))
    refine JL.norm ?_
    refine L_q (Q_move rfl) rfl rfl rfl ?_
    refine L_o rfl rfl rfl (O_app (τ := tS) 0 rfl (fun w h => h.rd 1 rfl) rfl rfl rfl rfl (by simp; omega) (by decide) (fun T => ?_))
    refine JL.norm ?_
    refine L_q (Q_assign rfl) rfl rfl rfl ?_
    refine JL_nil ?_
    refine seqQ_normal ?_
    refine J_ret ?_
    exact retQ_ret _ [slc tS true S l, slc tS true T l] (.cons (RV_tmp rfl) .nil) ⟨T, rfl, rfl⟩ (Ent.re [1, 0, 2] rfl)
theorem take1_ok (E : World) (b : Bd) (c : Nat) (u : Int) : Does Try.prog E 26 [.agg (bdV b).toArray, .pointer (some ⟨c, 0, none⟩)] [cel c [.int .i64 u] 3] fun v L => v = .bool (decide (b.seq < u)) ∧ L = [cel c [.int .i64 u] 3] := by
  refine Does.of Try.func26 rfl Try.ntmps26 rfl rfl fun F => ?_
  refine J.norm ?_
  refine J_seq ?_
  refine J_region ?_
  refine L_o rfl rfl rfl (O_box rfl fun b2 => ?_)
  refine L_q (Q_assign rfl) rfl rfl rfl ?_
  refine JL_nil ?_
  refine seqQ_normal ?_
  refine J_seq ?_
  refine J_region ?_
  refine L_q (Q_fa0 rfl) rfl rfl rfl ?_
  refine L_q (Q_ld 0 rfl rfl rfl rfl) rfl rfl rfl ?_
  refine L_q (Q_ld 1 rfl rfl rfl rfl) rfl rfl rfl ?_
  refine L_q (Q_lss rfl rfl) rfl rfl rfl ?_
  refine L_q (Q_assign rfl) rfl rfl rfl ?_
  refine JL_nil ?_
  refine seqQ_normal ?_
  refine J_ret ?_
  exact retQ_ret _ [cel c [.int .i64 u] 3] (.cons (RV_tmp rfl) .nil) ⟨rfl, rfl⟩ (Ent.re [1, 2] rfl)
theorem idxf_ok (E : World) (S : SV) (l : List Bd) (c : Nat) (u : Int) (hl : l.length ≤ 1000) : Does Try.prog E 40 [S.v, .func (.func 26) #[] #[.pointer (some ⟨c, 0, none⟩)]] [slc tBd true S l, cel c [.int .i64 u] 3]
    fun v L => v = .int .i64 (if idxD l u < l.length then (idxD l u : Int) else -1) ∧ L = [slc tBd true S l, cel c [.int .i64 u] 3] := by
  refine Does.of Try.func40 rfl Try.ntmps40 rfl rfl fun F => ?_
  refine J.norm ?_
  refine J_seq ?_
  refine J_region ?_
  refine L_q (Q_assign rfl) rfl rfl rfl ?_
  refine JL_nil ?_
  refine seqQ_normal ?_
  refine J_seq ?_
  refine J_seq ?_
  refine J_region ?_
  refine L_q (Q_move rfl) rfl rfl rfl ?_
  refine L_q (Q_lenAt 0 rfl rfl) rfl rfl rfl ?_
  refine L_q (Q_move rfl) rfl rfl rfl ?_
  refine JL_nil ?_
  refine seqQ_normal ?_
  refine J_block ?_
  refine J_loop (fun k : Nat => k ≤ idxD l u ∧ k ≤ l.length) (fun k => [(0, S.v), (1, .func (.func 26) #[] #[.pointer (some ⟨c, 0, none⟩)]), (7, .int .i64 (l.length : Int)), (8, .int .i64 (k : Int))]) (fun _ => [slc tBd true S l, cel c [.int .i64 u] 3, F]) (fun k => l.length - k) 0 ⟨Nat.zero_le _, Nat.zero_le _⟩ ⟨rfl, rfl, rfl, rfl, trivial⟩ (Ent.refl _) ?_
  rintro k ⟨hk, hkl⟩
  refine J_seq ?_
  refine J_region ?_
  refine L_q (Q_lss rfl rfl) rfl rfl rfl ?_
  refine JL_nil ?_
  refine seqQ_normal ?_
  refine J_seq ?_
  refine J_condD rfl (fun h => ?_) (fun h => ?_)
  · have hlt : k < l.length := by omega
    have hc := take1_ok E l[k] c u
    refine J_skip ?_
    refine seqQ_normal ?_
    refine J_seq ?_
    refine J_block ?_
    refine J_seq ?_
    refine J_region ?_
    refine L_q (Q_move rfl) rfl rfl rfl ?_
    refine L_q (Q_assign rfl) rfl rfl rfl ?_
    refine JL_nil ?_
    refine seqQ_normal ?_
    refine J_seq ?_
    by_cases hq : l[k].seq < u
    · have hi : idxD l u = k := by
        have h1 : idxD l u ≤ k := by
          rcases Nat.lt_or_ge k (idxD l u) with h2 | h2
          · have := List.not_of_lt_findIdx h2
            simp [hq] at this
          · exact h2
        omega
      rw [decide_eq_true hq] at hc
      refine J_region ?_
      refine L_q (Q_move rfl) rfl rfl rfl ?_
      refine L_q (Q_move rfl) rfl rfl rfl ?_
      refine L_q (Q_move rfl) rfl rfl rfl ?_
      refine L_q (Q_ixAt 0 k rfl rfl rfl rfl hlt rfl) rfl rfl rfl ?_
      refine L_q (Q_ldEAAt 0 k 0 (vs := bdV l[k]) rfl rfl rfl rfl hlt (by decide) rfl) rfl rfl rfl ?_
      refine L_o rfl rfl rfl (O_dyn [1] [0,2] rfl rfl rfl hc rfl ?_)
      rintro _ _ ⟨rfl, rfl⟩
      refine JL.norm ?_
      refine JL_nil ?_
      refine seqQ_normal ?_
      refine J_condT rfl ?_
      refine J_seq ?_
      refine J_region ?_
      refine L_q (Q_move rfl) rfl rfl rfl ?_
      refine L_q (Q_assign rfl) rfl rfl rfl ?_
      refine JL_nil ?_
      refine seqQ_normal ?_
      refine J_ret ?_
      refine blockQ_ret ?_
      refine seqQ_ret ?_
      refine loopQ_ret ?_
      refine blockQ_ret ?_
      refine seqQ_ret ?_
      exact retQ_ret _ [slc tBd true S l, cel c [.int .i64 u] 3] (.cons (RV_tmp rfl) .nil) ⟨by rw [hi, if_pos hlt]; rfl, rfl⟩ (Ent.re [1, 0, 2] rfl)
    · rw [decide_eq_false hq] at hc
      refine J_region ?_
      refine L_q (Q_move rfl) rfl rfl rfl ?_
      refine L_q (Q_move rfl) rfl rfl rfl ?_
      refine L_q (Q_move rfl) rfl rfl rfl ?_
      refine L_q (Q_ixAt 0 k rfl rfl rfl rfl hlt rfl) rfl rfl rfl ?_
      refine L_q (Q_ldEAAt 0 k 0 (vs := bdV l[k]) rfl rfl rfl rfl hlt (by decide) rfl) rfl rfl rfl ?_
      refine L_o rfl rfl rfl (O_dyn [1] [0,2] rfl rfl rfl hc rfl ?_)
      rintro _ _ ⟨rfl, rfl⟩
      refine JL.norm ?_
      refine JL_nil ?_
      refine seqQ_normal ?_
      refine J_condF rfl ?_
      refine J_skip ?_
      refine blockQ_normal ?_
      refine seqQ_normal ?_
      refine J_region ?_
      refine L_q (Q_add rfl rfl (by first | exact IntWalk.i64_in _ (by omega) | exact IntWalk.u8_in _ (by omega) | exact IntWalk.u32_in _ (by omega) | exact IntWalk.u64_in _ (by omega) | rfl)) rfl rfl rfl ?_
      refine L_q (Q_move rfl) rfl rfl rfl ?_
      refine JL_nil ?_
      refine loopQ_normal (k + 1) ⟨?_, hlt⟩ (by omega) ⟨rfl, rfl, rfl, rfl, trivial⟩ (Ent.re [1, 0, 2] rfl)
      rcases Nat.lt_or_ge k (idxD l u) with h2 | h2
      · exact h2
      · exfalso
        have e : idxD l u = k := by omega
        have := List.findIdx_getElem (p := fun b : Bd => decide (b.seq < u)) (xs := l) (w := by show idxD l u < _; omega)
        have h3 : l[idxD l u].seq < u := of_decide_eq_true this
        simp only [e] at h3
        exact hq h3
  · have : ¬ idxD l u < l.length := by omega
    refine J_exit ?_
    refine seqQ_exit ?_
    refine loopQ_exit ?_
    refine blockQ_hit ?_
    refine seqQ_normal ?_
    refine J_seq ?_
    refine J_region ?_
    refine L_q (Q_assign rfl) rfl rfl rfl ?_
    refine JL_nil ?_
    refine seqQ_normal ?_
    refine J_ret ?_
    exact retQ_ret _ [slc tBd true S l, cel c [.int .i64 u] 3] (.cons (RV_tmp rfl) .nil) ⟨by rw [if_neg this]; rfl, rfl⟩ (Ent.refl _)
theorem delf_ok (E : World) (S : SV) (l : List Bd) (c : Nat) (u : Int) (hl : l.length ≤ 1000) : Does Try.prog E 25 [S.v, .func (.func 26) #[] #[.pointer (some ⟨c, 0, none⟩)]] [slc tBd true S l, cel c [.int .i64 u] 3]
    fun v L => ∃ T : SV, v = T.v ∧ L = [slc tBd true T (ackO l u), cel c [.int .i64 u] 3] := by
  have hix := idxf_ok E S l c u hl
  by_cases hlt : idxD l u < l.length
  · rw [if_pos hlt] at hix
    have h0 : l[idxD l u].seq < u := by
      have := List.findIdx_getElem (p := fun b : Bd => decide (b.seq < u)) (xs := l) (w := hlt)
      exact of_decide_eq_true this
    have e0 : ackO (l.take (idxD l u)) u = l.take (idxD l u) := List.filter_eq_self.2 fun b hb => by
      obtain ⟨j, hj, rfl⟩ := List.getElem_of_mem hb
      rw [List.getElem_take]
      have h2 : j < idxD l u := by simp at hj; omega
      have := List.not_of_lt_findIdx h2
      simpa using this
    have e1 : ackO (l.take (idxD l u + 1)) u = l.take (idxD l u) := by rw [ackO_succ l u _ hlt, e0, if_pos h0, List.append_nil]
    generalize idxD l u = k0 at *
    refine Does.of Try.func25 rfl Try.ntmps25 rfl rfl fun F => ?_
    refine J.norm ?_
    refine J.have (p := S.n = l.length ∧ S.n ≤ S.c ∧ (0 < S.c → ∃ g o, S.a = some ⟨g, o, none⟩)) (fun w hs => ⟨(hs.rd 0 rfl).1, (hs.rd 0 rfl).2.1, hs.slcB 0 rfl⟩) fun ⟨hn, hcc, ha⟩ => ?_
    obtain ⟨g, o, hSA⟩ := ha (by omega)
    clear ha
    obtain ⟨aS, nS, cS⟩ := S
    simp only at hn hcc hSA
    subst hn hSA
    refine J_seq ?_
    refine J_region ?_
    refine L_q (Q_assign rfl) rfl rfl rfl ?_
    refine JL_nil ?_
    refine seqQ_normal ?_
    refine J_seq ?_
    refine J_region ?_
    refine L_q (Q_move rfl) rfl rfl rfl ?_
    refine L_q (Q_move rfl) rfl rfl rfl ?_
    refine L_o rfl rfl rfl (O_call [0,1] [2] hix rfl rfl ?_)
    rintro _ _ ⟨rfl, rfl⟩
    refine JL.norm ?_
    refine L_q (Q_assign rfl) rfl rfl rfl ?_
    refine JL_nil ?_
    refine seqQ_normal ?_
    refine J_seq ?_
    refine J_seq ?_
    refine J_region ?_
    refine L_q (Q_move rfl) rfl rfl rfl ?_
    refine L_q ((Q_eql rfl rfl).as (v' := .bool false) (congrArg Value.bool (decide_eq_false (by omega)))) rfl rfl rfl ?_
    refine JL_nil ?_
    refine seqQ_normal ?_
    refine J_condF rfl ?_
    refine J_skip ?_
    refine seqQ_normal ?_
    refine J_seq ?_
    refine J_seq ?_
    refine J_region ?_
    refine L_q (Q_move rfl) rfl rfl rfl ?_
    refine L_q (Q_add rfl rfl (by first | exact IntWalk.i64_in _ (by omega) | exact IntWalk.u8_in _ (by omega) | exact IntWalk.u32_in _ (by omega) | exact IntWalk.u64_in _ (by omega) | rfl)) rfl rfl rfl ?_
    refine L_q (Q_assign rfl) rfl rfl rfl ?_
    refine JL_nil ?_
    refine seqQ_normal ?_
    refine J_block ?_
    refine J_loop (fun i : Nat × List Bd => i.1 ≤ l.length ∧ i.2.length = l.length ∧ (ackO (l.take i.1) u).length < i.1 ∧ i.2.take (ackO (l.take i.1) u).length = ackO (l.take i.1) u ∧ i.2.drop i.1 = l.drop i.1)
      (fun i => [(0, SV.v ⟨some ⟨g, o, none⟩, l.length, cS⟩), (1, .func (.func 26) #[] #[.pointer (some ⟨c, 0, none⟩)]), (5, .int .i64 ((ackO (l.take i.1) u).length : Int)), (6, .int .i64 (i.1 : Int))])
      (fun i => [slc tBd true ⟨some ⟨g, o, none⟩, l.length, cS⟩ i.2, cel c [.int .i64 u] 3, F]) (fun i => l.length - i.1) (k0 + 1, l) ⟨hlt, rfl, by simp only [e1]; simp; omega, by simp only [e1]; rw [List.length_take, Nat.min_eq_left (by omega)], rfl⟩ ⟨rfl, rfl, by simp only [e1, List.length_take, Nat.min_eq_left (Nat.le_of_lt hlt)]; rfl, rfl, trivial⟩ (Ent.refl _) ?_
    rintro ⟨j, m⟩ ⟨hj, hml, hlj, hmt, hmd⟩
    dsimp only at hj hml hlj hmt hmd ⊢
    refine J_seq ?_
    refine J_seq ?_
    refine J_region ?_
    refine L_q (Q_move rfl) rfl rfl rfl ?_
    refine L_q (Q_move rfl) rfl rfl rfl ?_
    refine L_q (Q_lenAt 0 rfl rfl) rfl rfl rfl ?_
    refine L_q (Q_lss rfl rfl) rfl rfl rfl ?_
    refine JL_nil ?_
    refine seqQ_normal ?_
    refine J_condD rfl (fun h => ?_) (fun h => ?_)
    · have hjl : j < l.length := by omega
      have hjm : j < m.length := by omega
      have hmj : m[j] = l[j] := by
        have h2 := congrArg (fun x : List Bd => x[0]?) hmd
        simp only [List.getElem?_drop, Nat.add_zero, List.getElem?_eq_getElem hjl, List.getElem?_eq_getElem hjm] at h2
        exact Option.some.inj h2
      have hs := ackO_succ l u j hjl
      have hc := take1_ok E m[j] c u
      have hd1 : m.drop (j + 1) = l.drop (j + 1) := by
        have h2 := congrArg (List.drop 1) hmd
        rwa [List.drop_drop, List.drop_drop] at h2
      generalize ackO (l.take j) u = A at *
      refine J_skip ?_
      refine seqQ_normal ?_
      refine J_seq ?_
      refine J_block ?_
      refine J_seq ?_
      refine J_region ?_
      refine L_q (Q_move rfl) rfl rfl rfl ?_
      refine L_q (Q_move rfl) rfl rfl rfl ?_
      refine L_q (Q_ixAt 0 j rfl rfl rfl rfl hjm rfl) rfl rfl rfl ?_
      refine L_q (Q_ldEAAt 0 j 0 (vs := bdV m[j]) rfl rfl rfl rfl hjm (by decide) rfl) rfl rfl rfl ?_
      refine L_o rfl rfl rfl (O_alloc fun b7 => ?_)
      refine L_s rfl rfl (O_stW 0 rfl rfl rfl rfl ?_)
      refine JL.norm ?_
      refine JL_nil ?_
      refine seqQ_normal ?_
      refine J_seq ?_
      by_cases hq : l[j].seq < u
      · rw [hmj, decide_eq_true hq, ← hmj] at hc
        rw [if_pos hq, List.append_nil] at hs
        refine J_region ?_
        refine L_q (Q_move rfl) rfl rfl rfl ?_
        refine L_q (Q_ldA 0 rfl rfl rfl) rfl rfl rfl ?_
        refine L_o rfl rfl rfl (O_dyn [2] [0,1,3] rfl rfl rfl hc rfl ?_)
        rintro _ _ ⟨rfl, rfl⟩
        refine JL.norm ?_
        refine L_q ((Q_not rfl).as (v' := .bool false) rfl) rfl rfl rfl ?_
        refine JL_nil ?_
        refine seqQ_normal ?_
        refine J_condF rfl ?_
        refine J_skip ?_
        refine blockQ_normal ?_
        refine seqQ_normal ?_
        refine J_region ?_
        refine L_q (Q_move rfl) rfl rfl rfl ?_
        refine L_q (Q_add rfl rfl (by first | exact IntWalk.i64_in _ (by omega) | exact IntWalk.u8_in _ (by omega) | exact IntWalk.u32_in _ (by omega) | exact IntWalk.u64_in _ (by omega) | rfl)) rfl rfl rfl ?_
        refine L_q (Q_assign rfl) rfl rfl rfl ?_
        refine JL_nil ?_
        exact loopQ_normal (j + 1, m) ⟨hjl, hml, by simp only [hs]; omega, by simp only [hs]; exact hmt, hd1⟩ (by simp only; omega) ⟨rfl, rfl, by simp only [hs]; rfl, rfl, trivial⟩ (Ent.re [2, 0, 3] rfl)
      · rw [hmj, decide_eq_false hq, ← hmj] at hc
        rw [if_neg hq] at hs
        have hAm : A.length < m.length := by omega
        have hset : (m.set A.length m[j]).take (A.length + 1) = A ++ [l[j]] := by
          rw [take_set_lt hAm, hmt, hmj]
        have hsd : (m.set A.length m[j]).drop (j + 1) = l.drop (j + 1) := by
          rw [List.drop_set_of_lt (by omega)]; exact hd1
        refine J_region ?_
        refine L_q (Q_move rfl) rfl rfl rfl ?_
        refine L_q (Q_ldA 0 rfl rfl rfl) rfl rfl rfl ?_
        refine L_o rfl rfl rfl (O_dyn [2] [0,1,3] rfl rfl rfl hc rfl ?_)
        rintro _ _ ⟨rfl, rfl⟩
        refine JL.norm ?_
        refine L_q ((Q_not rfl).as (v' := .bool true) rfl) rfl rfl rfl ?_
        refine JL_nil ?_
        refine seqQ_normal ?_
        refine J_condT rfl ?_
        refine J_seq ?_
        refine J_region ?_
        refine L_q (Q_move rfl) rfl rfl rfl ?_
        refine L_q (Q_move rfl) rfl rfl rfl ?_
        refine L_q (Q_ldA 1 rfl rfl rfl) rfl rfl rfl ?_
        refine L_q (Q_ixAt 2 A.length rfl rfl rfl rfl hAm rfl) rfl rfl rfl ?_
        refine L_s rfl rfl (O_stE 2 A.length 0 m[j] rfl rfl rfl rfl rfl rfl (by intro c hc; simp [Value.cells] at hc; rcases hc with rfl | rfl | rfl <;> rfl) hAm (Nat.le_refl 3) (by simp [tBd, Value.cells]) ?_)
        refine JL.norm ?_
        refine JL_nil ?_
        refine seqQ_normal ?_
        refine J_region ?_
        refine L_q (Q_move rfl) rfl rfl rfl ?_
        refine L_q (Q_add rfl rfl (by first | exact IntWalk.i64_in _ (by omega) | exact IntWalk.u8_in _ (by omega) | exact IntWalk.u32_in _ (by omega) | exact IntWalk.u64_in _ (by omega) | rfl)) rfl rfl rfl ?_
        refine L_q (Q_assign rfl) rfl rfl rfl ?_
        refine JL_nil ?_
        refine blockQ_normal ?_
        refine seqQ_normal ?_
        refine J_region ?_
        refine L_q (Q_move rfl) rfl rfl rfl ?_
        refine L_q (Q_add rfl rfl (by first | exact IntWalk.i64_in _ (by omega) | exact IntWalk.u8_in _ (by omega) | exact IntWalk.u32_in _ (by omega) | exact IntWalk.u64_in _ (by omega) | rfl)) rfl rfl rfl ?_
        refine L_q (Q_assign rfl) rfl rfl rfl ?_
        refine JL_nil ?_
        exact loopQ_normal (j + 1, m.set A.length m[j]) ⟨hjl, by simp [hml], by simp only [hs, List.length_append, List.length_singleton]; omega, by simp only [hs, List.length_append, List.length_singleton]; exact hset, hsd⟩ (by simp only; omega) ⟨rfl, rfl, by simp only [hs, List.length_append, List.length_singleton]; rfl, rfl, trivial⟩ (Ent.re [2, 0, 3] rfl)
    · obtain rfl : j = l.length := by omega
      rw [List.take_length] at hlj hmt ⊢
      generalize ackO l u = A at *
      refine J.ent (Ent.shrink 0 rfl A.length (by omega)) ?_
      refine J.norm ?_
      rw [hmt]
      refine J_exit ?_
      refine seqQ_exit ?_
      refine loopQ_exit ?_
      refine blockQ_hit ?_
      refine seqQ_normal ?_
      refine J_seq ?_
      refine J_region ?_
      refine L_q (Q_move rfl) rfl rfl rfl ?_
      refine L_q (Q_move rfl) rfl rfl rfl ?_
      refine L_q (Q_slLc (τ := tBd) (S := ⟨some ⟨g, o, none⟩, l.length, cS⟩) A.length l.length rfl rfl rfl rfl (by omega) rfl) rfl rfl rfl ?_
      refine L_s rfl rfl (O_clear (τ := tBd) (S := ⟨some ⟨g, o, none⟩, A.length, cS⟩) 0 A.length l.length rfl rfl rfl rfl (by simp [Value.cells, Value.oneCell']) (by omega) (by omega) (by omega) ?_)
      refine JL.norm ?_
      refine JL_nil ?_
      refine seqQ_normal ?_
      refine J_seq ?_
      refine J_region ?_
      refine L_q (Q_move rfl) rfl rfl rfl ?_
      refine L_q (Q_move rfl) rfl rfl rfl ?_
      refine L_q ((Q_slHc (τ := tBd) (S := ⟨some ⟨g, o, none⟩, l.length, cS⟩) A.length rfl rfl rfl (by simp only; omega)).as (v' := SV.v ⟨some ⟨g, o, none⟩, A.length, cS⟩) (by simp [SV.sub, addr_add])) rfl rfl rfl ?_
      refine L_q (Q_assign rfl) rfl rfl rfl ?_
      refine JL_nil ?_
      refine seqQ_normal ?_
      refine J_ret ?_
      exact retQ_ret _ [slc tBd true ⟨some ⟨g, o, none⟩, A.length, cS⟩ A, cel c [.int .i64 u] 3] (.cons (RV_tmp rfl) .nil) ⟨_, rfl, rfl⟩ (Ent.refl _)
  · rw [if_neg hlt] at hix
    have e0 : ackO l u = l := List.filter_eq_self.2 fun b hb => by
      obtain ⟨j, hj, rfl⟩ := List.getElem_of_mem hb
      have h2 : j < idxD l u := by omega
      have := List.not_of_lt_findIdx h2
      simpa using this
    rw [e0]
    refine Does.of Try.func25 rfl Try.ntmps25 rfl rfl fun F => ?_
    refine J.norm ?_
    refine J_seq ?_
    refine J_region ?_
    refine L_q (Q_assign rfl) rfl rfl rfl ?_
    refine JL_nil ?_
    refine seqQ_normal ?_
    refine J_seq ?_
    refine J_region ?_
    refine L_q (Q_move rfl) rfl rfl rfl ?_
    refine L_q (Q_move rfl) rfl rfl rfl ?_
    refine L_o rfl rfl rfl (O_call [0,1] [2] hix rfl rfl ?_)
    rintro _ _ ⟨rfl, rfl⟩
    refine JL.norm ?_
    refine L_q (Q_assign rfl) rfl rfl rfl ?_
    refine JL_nil ?_
    refine seqQ_normal ?_
    refine J_seq ?_
    refine J_seq ?_
    refine J_region ?_
    refine L_q (Q_move rfl) rfl rfl rfl ?_
    refine L_q ((Q_eql rfl rfl).as (v' := .bool true) rfl) rfl rfl rfl ?_
    refine JL_nil ?_
    refine seqQ_normal ?_
    refine J_condT rfl ?_
    refine J_seq ?_
    refine J_region ?_
    refine L_q (Q_move rfl) rfl rfl rfl ?_
    refine L_q (Q_assign rfl) rfl rfl rfl ?_
    refine JL_nil ?_
    refine seqQ_normal ?_
    refine J_ret ?_
    refine seqQ_ret ?_
    exact retQ_ret _ [slc tBd true S l, cel c [.int .i64 u] 3] (.cons (RV_tmp rfl) .nil) ⟨S, rfl, rfl⟩ (Ent.refl _)
theorem pframe_ok (E : World) (p w t r wr base : Nat) (S T : SV) (room sent : Nat) (owe : Bool) (sq s : By) (h : 16 + sq.length + s.length ≤ 4096) : Does Try.prog E 21 [.pointer (some ⟨p, 0, none⟩), str sq, str s] [pipeC p w t r S T room sent owe, winC w 64 base wr] fun v L => v = str (frm base sq s) ∧ L = [pipeC p w t r S T room sent owe, winC w 64 base wr] := by
  have hl : (texts [sq, four base, s]).length ≤ 4096 := by rw [texts3_len]; simp [four]; omega
  have hf := frame_ok E (texts [sq, four base, s])
  rw [show frameV (texts [sq, four base, s]) = .tuple #[str (frame (texts [sq, four base, s])), .int .i64 0] by unfold frameV; rw [if_neg (by omega)]] at hf
  refine Does.of Try.func21 rfl Try.ntmps21 rfl rfl fun F => ?_
  refine J.norm ?_
  refine J_seq ?_
  refine J_region ?_
  refine L_q (Q_assign rfl) rfl rfl rfl ?_
  refine JL_nil ?_
  refine seqQ_normal ?_
  refine J_seq ?_
  refine J_region ?_
  refine L_q (Q_move rfl) rfl rfl rfl ?_
  refine L_q (Q_move rfl) rfl rfl rfl ?_
  refine L_q (Q_nilCheck rfl) rfl rfl rfl ?_
  refine L_q (Q_fa0 rfl) rfl rfl rfl ?_
  refine L_q (Q_ld 0 rfl rfl rfl rfl) rfl rfl rfl ?_
  refine L_o rfl rfl rfl (O_call [1] [0,2] (wbase_ok E w 64 base wr) rfl rfl ?_)
  rintro _ _ ⟨rfl, rfl⟩
  refine JL.norm ?_
  refine L_o rfl rfl rfl (O_call [] [0,1,2] (pfour_ok E base) rfl rfl ?_)
  rintro _ _ ⟨rfl, rfl⟩
  refine JL.norm ?_
  refine L_q (Q_move rfl) rfl rfl rfl ?_
  refine L_o rfl rfl rfl (O_litP (τ := tS) (m := 3) (sz := 1) [sq, four base, s] rfl rfl rfl rfl rfl rfl (by decide) (fun U => ?_))
  refine JL.norm ?_
  refine L_o rfl rfl rfl (O_call [0] [1,2,3] (wtexts_ok E true U [sq, four base, s] (by simp) (by omega)) rfl rfl ?_)
  rintro _ _ ⟨rfl, rfl⟩
  refine JL.norm ?_
  refine L_o rfl rfl rfl (O_call [] [0,1,2,3] hf rfl rfl ?_)
  rintro _ _ ⟨rfl, rfl⟩
  refine JL.norm ?_
  refine L_q (Q_move rfl) rfl rfl rfl ?_
  refine L_q (Q_extract (v := str (frm base sq s)) rfl rfl) rfl rfl rfl ?_
  refine L_q (Q_extract (v := .int .i64 0) rfl rfl) rfl rfl rfl ?_
  refine L_q (Q_assign rfl) rfl rfl rfl ?_
  refine L_q (Q_assign rfl) rfl rfl rfl ?_
  refine JL_nil ?_
  refine seqQ_normal ?_
  refine J_seq ?_
  refine J_region ?_
  refine L_q (Q_move rfl) rfl rfl rfl ?_
  refine L_q (Q_assign rfl) rfl rfl rfl ?_
  refine JL_nil ?_
  refine seqQ_normal ?_
  refine J_ret ?_
  exact retQ_ret _ [pipeC p w t r S T room sent owe, winC w 64 base wr] (.cons (RV_tmp rfl) .nil) ⟨rfl, rfl⟩ (Ent.re [2, 1, 3] rfl)
end Go.Proofs
