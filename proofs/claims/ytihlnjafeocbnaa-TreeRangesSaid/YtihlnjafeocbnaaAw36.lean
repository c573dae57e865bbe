/- Deeds on a tree; the chapter's example; a tree that is none. -/
import Derived.Test.YtihlnjafeocbnaaRef36b
import Derived.Test.YtihlnjafeocbnaaTysD
set_option autoImplicit false
namespace Go.Proofs
open Go.SL
structure Dd where
  gone : Bool
  key : Ky
  val : Ky
abbrev ddV (d : Dd) : List Value := [.bool d.gone, str d.key, str d.val]
def tDd : Ty Dd := ⟨31, 3, ddV, fun _ => rfl, by decide, fun a v hv => by simp [ddV] at hv; rcases hv with rfl | rfl | rfl <;> rfl⟩
instance : TyI Try.prog tDd.e 3 (.agg #[.bool false, .string ⟨#[]⟩, .string ⟨#[]⟩]) 40 := inferInstanceAs (TyI Try.prog 31 3 (.agg #[.bool false, .string ⟨#[]⟩, .string ⟨#[]⟩]) 40)
instance : TyU Try.prog 22 (.slice tDd.e) := inferInstanceAs (TyU Try.prog 22 (.slice 31))
def fewK (l : List Dd) : Bool := decide (l.length ≤ 300) && l.all fun d => decide (d.key.length ≤ 1000) && decide (d.val.length ≤ 1000)
theorem fewK_text {l : List Dd} (h : fewK l = true) : l.length ≤ 300 ∧ ∀ d ∈ l, d.key.length ≤ 1000 ∧ d.val.length ≤ 1000 := by
  simpa [fewK] using h
def doL (l : List Kv) (d : Dd) : List Kv := if d.gone = true then delL l d.key else putL l d.key d.val
def runL (l : List Kv) (ds : List Dd) : List Kv := ds.foldl doL l
theorem treeA_up {E w : World} {p : Nat} {l : List Kv} {L : List HProp} (h : Sat E w (treeA p l :: L)) : Up l := by
  obtain ⟨g, _⟩ := Sat.tree_out h
  exact g.2
theorem up_do {l : List Kv} (h : Up l) (d : Dd) : Up (doL l d) := by
  unfold doL
  split
  · exact up_del h _
  · exact up_put h _ _
theorem len_do {l : List Kv} (h : Up l) (d : Dd) : (doL l d).length ≤ l.length + 1 := by
  unfold doL
  split
  · rw [del_len h]; split <;> omega
  · rw [put_len h]; split <;> omega
theorem runL_snoc (l : List Kv) (ds : List Dd) (d : Dd) : runL l (ds ++ [d]) = doL (runL l ds) d := by simp [runL]
theorem runL_up : ∀ (ds : List Dd) {l : List Kv}, Up l → Up (runL l ds)
  | [], _, h => h
  | d :: ds, _, h => runL_up ds (up_do h d)
theorem runL_len : ∀ (ds : List Dd) {l : List Kv}, Up l → (runL l ds).length ≤ l.length + ds.length
  | [], l, h => Nat.le_refl _
  | d :: ds, l, h => by
    have h1 := runL_len ds (up_do h d)
    have h2 := len_do h d
    show (runL (doL l d) ds).length ≤ _
    simp only [List.length_cons]; omega
def awL : Nat → List Kv
  | 0 => putL (putL [] [107] [49]) [107] [50]
  | n + 1 => putL (awL n) [UInt8.ofNat (97 + n)] [120]
theorem awL_7 : awL 7 = [⟨[97], [120]⟩, ⟨[98], [120]⟩, ⟨[99], [120]⟩, ⟨[100], [120]⟩, ⟨[101], [120]⟩, ⟨[102], [120]⟩, ⟨[103], [120]⟩, ⟨[107], [50]⟩] := by decide +kernel
theorem awL_len : ∀ n : Nat, n ≤ 7 → (awL n).length ≤ 1000 := by decide +kernel
theorem awR : rngL (awL 7) [98] [100] 9 = [⟨[98], [120]⟩, ⟨[99], [120]⟩] := by decide +kernel
theorem awD : hasL (awL 7) [107] = true ∧ hasL (delL (awL 7) [107]) [107] = false ∧ (delL (awL 7) [107]).length = 7 ∧ (delL (delL (awL 7) [107]) [107]).length = 7 := by decide +kernel
theorem aw0 : hasL [] [107] = false ∧ hasL (putL [] [107] [49]) [107] = true ∧ getL (awL 0) [107] = [50] ∧ hasL (awL 0) [107] = true := by decide +kernel
theorem depth_2 {D : Nat} (h : 1 ≤ D ∧ 2 * 4 ^ (D - 1) ≤ 9 ∧ 9 ≤ 8 ^ D) : D = 2 := by
  obtain ⟨h1, h2, h3⟩ := h
  rcases Nat.lt_or_ge D 3 with hd | hd
  · rcases Nat.lt_or_ge D 2 with h4 | h4
    · obtain rfl : D = 1 := by omega
      simp at h3
    · omega
  · have : 4 ^ 2 ≤ 4 ^ (D - 1) := Nat.pow_le_pow_right (by decide) (by omega)
    simp at this; omega
attribute [local irreducible] J JL QOp JOp seqQ blockQ loopQ retQ slc cel hex star pur stars Does RV Ent pAt scopeQ
attribute [local irreducible] nodeA nodeX treeA
theorem fewK_ok (E : World) (S : SV) (l : List Dd) : Does Try.prog E 8 [S.v] [slc tDd false S l] fun v L => v = .bool (fewK l) ∧ L = [slc tDd false S l] := by
  refine Does.of Try.func8 rfl Try.ntmps8 rfl rfl fun F => ?_
  refine J.norm ?_
  refine J_seq ?_
  refine J_region ?_
  refine L_q (Q_assign rfl) rfl rfl rfl ?_
  refine JL_nil ?_
  refine seqQ_normal ?_
  refine J_seq ?_
  refine J_seq ?_
  refine J_region ?_
  refine L_q (Q_move rfl) rfl rfl rfl ?_
  refine L_q (Q_lenAt 0 rfl rfl) rfl rfl rfl ?_
  refine L_q (Q_gtr rfl rfl) rfl rfl rfl ?_
  refine JL_nil ?_
  refine seqQ_normal ?_
  refine J_condD rfl (fun h => ?_) (fun h => ?_)
  · refine J_seq ?_
    refine J_region ?_
    refine L_q (Q_assign rfl) rfl rfl rfl ?_
    refine JL_nil ?_
    refine seqQ_normal ?_
    refine J_ret ?_
    refine seqQ_ret ?_
    exact retQ_ret _ [slc tDd false S l] (.cons (RV_tmp rfl) .nil) ⟨by rw [show fewK l = false by simp [fewK]; omega]; rfl, rfl⟩ (Ent.refl _)
  · refine J_skip ?_
    refine seqQ_normal ?_
    refine J_seq ?_
    refine J_seq ?_
    refine J_region ?_
    refine L_q (Q_assign rfl) rfl rfl rfl ?_
    refine JL_nil ?_
    refine seqQ_normal ?_
    refine J_block ?_
    refine J_loop (fun k => k ≤ l.length ∧ ∀ a ∈ l.take k, a.key.length ≤ 1000 ∧ a.val.length ≤ 1000) (fun k => [(0, S.v), (3, .int .i64 (k : Int))]) (fun _ => [slc tDd false S l, F]) (fun k => l.length - k) 0 ⟨by simp, by simp⟩ ⟨rfl, rfl, trivial⟩ (Ent.refl _) ?_
    rintro k ⟨hk, ha⟩
    refine J_seq ?_
    refine J_seq ?_
    refine J_region ?_
    refine L_q (Q_move rfl) rfl rfl rfl ?_
    refine L_q (Q_move rfl) rfl rfl rfl ?_
    refine L_q (Q_lenAt 0 rfl rfl) rfl rfl rfl ?_
    refine L_q (Q_lss rfl rfl) rfl rfl rfl ?_
    refine JL_nil ?_
    refine seqQ_normal ?_
    refine J_condD rfl (fun h2 => ?_) (fun h2 => ?_)
    · have hlt : k < l.length := by omega
      have hbad : ¬ (l[k].key.length ≤ 1000 ∧ l[k].val.length ≤ 1000) → fewK l = false := fun hx => by
        cases hf : fewK l with
        | false => rfl
        | true => exact absurd ((fewK_text hf).2 l[k] (List.getElem_mem hlt)) hx
      by_cases c1 : l[k].key.length ≤ 1000
      · by_cases c2 : l[k].val.length ≤ 1000
        · refine J_skip ?_
          refine seqQ_normal ?_
          refine J_seq ?_
          refine J_block ?_
          refine J_seq ?_
          refine J_region ?_
          refine L_q (Q_move rfl) rfl rfl rfl ?_
          refine L_q (Q_move rfl) rfl rfl rfl ?_
          refine L_q (Q_ixAt 0 k rfl rfl rfl rfl hlt rfl) rfl rfl rfl ?_
          refine L_q (Q_pfa rfl) rfl rfl rfl ?_
          refine L_q (Q_ldEAt 0 k 1 (v := str l[k].key) rfl rfl rfl rfl hlt (by decide) rfl) rfl rfl rfl ?_
          refine L_q (Q_slen rfl) rfl rfl rfl ?_
          refine L_q ((Q_gtr rfl rfl).as (v' := .bool false) (congrArg Value.bool (decide_eq_false (by omega)))) rfl rfl rfl ?_
          refine L_q (Q_move rfl) rfl rfl rfl ?_
          refine L_q (Q_move rfl) rfl rfl rfl ?_
          refine L_q (Q_move rfl) rfl rfl rfl ?_
          refine L_q (Q_ixAt 0 k rfl rfl rfl rfl hlt rfl) rfl rfl rfl ?_
          refine L_q (Q_pfa rfl) rfl rfl rfl ?_
          refine L_q (Q_ldEAt 0 k 2 (v := str l[k].val) rfl rfl rfl rfl hlt (by decide) rfl) rfl rfl rfl ?_
          refine L_q (Q_slen rfl) rfl rfl rfl ?_
          refine L_q ((Q_gtr rfl rfl).as (v' := .bool false) (congrArg Value.bool (decide_eq_false (by omega)))) rfl rfl rfl ?_
          refine L_q (Q_pickF rfl rfl) rfl rfl rfl ?_
          refine JL_nil ?_
          refine seqQ_normal ?_
          refine J_condF rfl ?_
          refine J_skip ?_
          refine blockQ_normal ?_
          refine seqQ_normal ?_
          refine J_region ?_
          refine L_q (Q_move rfl) rfl rfl rfl ?_
          refine L_q (Q_add rfl rfl (by first | exact IntWalk.i64_in _ (by omega) | exact IntWalk.u8_in _ (by omega) | exact IntWalk.u32_in _ (by omega) | exact IntWalk.u64_in _ (by omega) | rfl)) rfl rfl rfl ?_
          refine L_q (Q_assign rfl) rfl rfl rfl ?_
          refine JL_nil ?_
          refine loopQ_normal (k + 1) ⟨hlt, ?_⟩ (by omega) ⟨rfl, rfl, trivial⟩ (Ent.refl _)
          intro a h5
          rw [List.take_succ_eq_append_getElem hlt, List.mem_append, List.mem_singleton] at h5
          rcases h5 with h5 | rfl
          · exact ha a h5
          · exact ⟨c1, c2⟩
        · refine J_skip ?_
          refine seqQ_normal ?_
          refine J_seq ?_
          refine J_block ?_
          refine J_seq ?_
          refine J_region ?_
          refine L_q (Q_move rfl) rfl rfl rfl ?_
          refine L_q (Q_move rfl) rfl rfl rfl ?_
          refine L_q (Q_ixAt 0 k rfl rfl rfl rfl hlt rfl) rfl rfl rfl ?_
          refine L_q (Q_pfa rfl) rfl rfl rfl ?_
          refine L_q (Q_ldEAt 0 k 1 (v := str l[k].key) rfl rfl rfl rfl hlt (by decide) rfl) rfl rfl rfl ?_
          refine L_q (Q_slen rfl) rfl rfl rfl ?_
          refine L_q ((Q_gtr rfl rfl).as (v' := .bool false) (congrArg Value.bool (decide_eq_false (by omega)))) rfl rfl rfl ?_
          refine L_q (Q_move rfl) rfl rfl rfl ?_
          refine L_q (Q_move rfl) rfl rfl rfl ?_
          refine L_q (Q_move rfl) rfl rfl rfl ?_
          refine L_q (Q_ixAt 0 k rfl rfl rfl rfl hlt rfl) rfl rfl rfl ?_
          refine L_q (Q_pfa rfl) rfl rfl rfl ?_
          refine L_q (Q_ldEAt 0 k 2 (v := str l[k].val) rfl rfl rfl rfl hlt (by decide) rfl) rfl rfl rfl ?_
          refine L_q (Q_slen rfl) rfl rfl rfl ?_
          refine L_q ((Q_gtr rfl rfl).as (v' := .bool true) (congrArg Value.bool (decide_eq_true (by omega)))) rfl rfl rfl ?_
          refine L_q (Q_pickF rfl rfl) rfl rfl rfl ?_
          refine JL_nil ?_
          refine seqQ_normal ?_
          refine J_condT rfl ?_
          refine J_seq ?_
          refine J_region ?_
          refine L_q (Q_assign rfl) rfl rfl rfl ?_
          refine JL_nil ?_
          refine seqQ_normal ?_
          refine J_ret ?_
          refine blockQ_ret ?_
          refine seqQ_ret ?_
          refine loopQ_ret ?_
          refine blockQ_ret ?_
          refine seqQ_ret ?_
          exact retQ_ret _ [slc tDd false S l] (.cons (RV_tmp rfl) .nil) ⟨by rw [hbad (fun h => c2 h.2)]; rfl, rfl⟩ (Ent.refl _)
      · refine J_skip ?_
        refine seqQ_normal ?_
        refine J_seq ?_
        refine J_block ?_
        refine J_seq ?_
        refine J_region ?_
        refine L_q (Q_move rfl) rfl rfl rfl ?_
        refine L_q (Q_move rfl) rfl rfl rfl ?_
        refine L_q (Q_ixAt 0 k rfl rfl rfl rfl hlt rfl) rfl rfl rfl ?_
        refine L_q (Q_pfa rfl) rfl rfl rfl ?_
        refine L_q (Q_ldEAt 0 k 1 (v := str l[k].key) rfl rfl rfl rfl hlt (by decide) rfl) rfl rfl rfl ?_
        refine L_q (Q_slen rfl) rfl rfl rfl ?_
        refine L_q ((Q_gtr rfl rfl).as (v' := .bool true) (congrArg Value.bool (decide_eq_true (by omega)))) rfl rfl rfl ?_
        refine L_q (Q_move rfl) rfl rfl rfl ?_
        refine L_n rfl rfl rfl ?_
        refine L_n rfl rfl rfl ?_
        refine L_n rfl rfl rfl ?_
        refine L_n rfl rfl rfl ?_
        refine L_n rfl rfl rfl ?_
        refine L_n rfl rfl rfl ?_
        refine L_n rfl rfl rfl ?_
        refine L_q (Q_pickT rfl rfl) rfl rfl rfl ?_
        refine JL_nil ?_
        refine seqQ_normal ?_
        refine J_condT rfl ?_
        refine J_seq ?_
        refine J_region ?_
        refine L_q (Q_assign rfl) rfl rfl rfl ?_
        refine JL_nil ?_
        refine seqQ_normal ?_
        refine J_ret ?_
        refine blockQ_ret ?_
        refine seqQ_ret ?_
        refine loopQ_ret ?_
        refine blockQ_ret ?_
        refine seqQ_ret ?_
        exact retQ_ret _ [slc tDd false S l] (.cons (RV_tmp rfl) .nil) ⟨by rw [hbad (fun h => c1 h.1)]; rfl, rfl⟩ (Ent.refl _)
    · obtain rfl : k = l.length := by omega
      rw [List.take_length] at ha
      have e : fewK l = true := by simp [fewK]; exact ⟨by omega, ha⟩
      refine J_exit ?_
      refine seqQ_exit ?_
      refine loopQ_exit ?_
      refine blockQ_hit ?_
      refine seqQ_normal ?_
      refine J_seq ?_
      refine J_region ?_
      refine L_q (Q_assign rfl) rfl rfl rfl ?_
      refine JL_nil ?_
      refine seqQ_normal ?_
      refine J_ret ?_
      exact retQ_ret _ [slc tDd false S l] (.cons (RV_tmp rfl) .nil) ⟨by rw [e]; rfl, rfl⟩ (Ent.refl _)
theorem do_ok (E : World) (p : Nat) (l : List Kv) (d : Dd) (C : HProp) (S : SV) (hC : Rdy E C S l) (hl : l.length ≤ 100000) : Does Try.prog E 11 [.pointer (some ⟨p, 0, none⟩), S.v, .agg (ddV d).toArray] [treeA p l, C] fun v L => ∃ (S' : SV) (D : HProp), Rdy E (star C D) S' (doL l d) ∧ v = .tuple #[S'.v, .bool true] ∧ L = [treeA p (doL l d), C, D] := by
  refine Does.of Try.func11 rfl Try.ntmps11 rfl rfl fun F => ?_
  refine J.norm ?_
  refine J.have (p := Up l) (fun w hs => treeA_up hs) fun hu => ?_
  obtain ⟨g, k, v⟩ := d
  refine J_seq ?_
  refine J_region ?_
  refine L_o rfl rfl rfl (O_box rfl fun b5 => ?_)
  refine L_q (Q_assign rfl) rfl rfl rfl ?_
  refine L_q (Q_assign rfl) rfl rfl rfl ?_
  refine JL_nil ?_
  refine seqQ_normal ?_
  refine J_seq ?_
  refine J_seq ?_
  cases g with
  | true =>
    refine J_region ?_
    refine L_q (Q_fa0 rfl) rfl rfl rfl ?_
    refine L_q (Q_ld 0 rfl rfl rfl rfl) rfl rfl rfl ?_
    refine JL_nil ?_
    refine seqQ_normal ?_
    refine J_condT rfl ?_
    refine J_seq ?_
    refine J_region ?_
    refine L_q (Q_move rfl) rfl rfl rfl ?_
    refine L_q (Q_fa0 rfl) rfl rfl rfl ?_
    refine L_q (Q_ld 0 rfl rfl rfl rfl) rfl rfl rfl ?_
    refine L_o rfl rfl rfl (O_call [2] [0,1,3] (rdel_ok E C S l k hC hu hl) rfl rfl ?_)
    rintro _ _ ⟨S', D, hR, rfl, rfl⟩
    refine JL.norm ?_
    refine L_q (Q_move rfl) rfl rfl rfl ?_
    refine L_q (Q_extract (v := S'.v) rfl rfl) rfl rfl rfl ?_
    refine L_q (Q_extract (v := .bool (hasL l k)) rfl rfl) rfl rfl rfl ?_
    refine L_q (Q_assign rfl) rfl rfl rfl ?_
    refine L_q (Q_assign rfl) rfl rfl rfl ?_
    refine JL_nil ?_
    refine seqQ_normal ?_
    refine J_seq ?_
    refine J_region ?_
    refine L_q (Q_move rfl) rfl rfl rfl ?_
    refine L_q (Q_move rfl) rfl rfl rfl ?_
    refine L_q (Q_fa0 rfl) rfl rfl rfl ?_
    refine L_q (Q_ld 2 rfl rfl rfl rfl) rfl rfl rfl ?_
    refine L_o rfl rfl rfl (O_call [3] [0,1,2,4] (tdel_ok E p l k (by omega)) rfl rfl ?_)
    rintro _ _ ⟨rfl, rfl⟩
    refine JL.norm ?_
    refine L_q (Q_move rfl) rfl rfl rfl ?_
    refine L_q ((Q_beql rfl rfl).as (v' := .bool true) (by simp)) rfl rfl rfl ?_
    refine L_q (Q_assign rfl) rfl rfl rfl ?_
    refine L_q (Q_assign rfl) rfl rfl rfl ?_
    refine JL_nil ?_
    refine seqQ_normal ?_
    refine J_ret ?_
    refine seqQ_ret ?_
    exact retQ_ret _ [treeA p (delL l k), C, D] (.cons (RV_tmp rfl) (.cons (RV_tmp rfl) .nil)) ⟨S', D, hR, rfl, rfl⟩ (Ent.re [0, 1, 2, 4] rfl)
  | false =>
    refine J_region ?_
    refine L_q (Q_fa0 rfl) rfl rfl rfl ?_
    refine L_q (Q_ld 0 rfl rfl rfl rfl) rfl rfl rfl ?_
    refine JL_nil ?_
    refine seqQ_normal ?_
    refine J_condF rfl ?_
    refine J_skip ?_
    refine seqQ_normal ?_
    refine J_seq ?_
    refine J_region ?_
    refine L_q (Q_move rfl) rfl rfl rfl ?_
    refine L_q (Q_fa0 rfl) rfl rfl rfl ?_
    refine L_q (Q_ld 0 rfl rfl rfl rfl) rfl rfl rfl ?_
    refine L_q (Q_fa0 rfl) rfl rfl rfl ?_
    refine L_q (Q_ld 0 rfl rfl rfl rfl) rfl rfl rfl ?_
    refine L_o rfl rfl rfl (O_call [2] [0,1,3] (rput_ok E C S l k v hC hu hl) rfl rfl ?_)
    rintro _ _ ⟨S', rfl, rfl⟩
    refine JL.norm ?_
    refine L_q (Q_move rfl) rfl rfl rfl ?_
    refine L_q (Q_extract (v := S'.v) rfl rfl) rfl rfl rfl ?_
    refine L_q (Q_extract (v := .bool (!hasL l k)) rfl rfl) rfl rfl rfl ?_
    refine L_q (Q_assign rfl) rfl rfl rfl ?_
    refine L_q (Q_assign rfl) rfl rfl rfl ?_
    refine JL_nil ?_
    refine seqQ_normal ?_
    refine J_seq ?_
    refine J_region ?_
    refine L_q (Q_move rfl) rfl rfl rfl ?_
    refine L_q (Q_move rfl) rfl rfl rfl ?_
    refine L_q (Q_fa0 rfl) rfl rfl rfl ?_
    refine L_q (Q_ld 2 rfl rfl rfl rfl) rfl rfl rfl ?_
    refine L_q (Q_fa0 rfl) rfl rfl rfl ?_
    refine L_q (Q_ld 2 rfl rfl rfl rfl) rfl rfl rfl ?_
    refine L_o rfl rfl rfl (O_call [3] [0,1,2,4] (tput_ok E p l k v (by omega)) rfl rfl ?_)
    rintro _ _ ⟨rfl, rfl⟩
    refine JL.norm ?_
    refine L_q (Q_move rfl) rfl rfl rfl ?_
    refine L_q ((Q_beql rfl rfl).as (v' := .bool true) (by simp)) rfl rfl rfl ?_
    refine L_q (Q_assign rfl) rfl rfl rfl ?_
    refine L_q (Q_assign rfl) rfl rfl rfl ?_
    refine JL_nil ?_
    refine seqQ_normal ?_
    refine J_ret ?_
    exact retQ_ret _ [treeA p (putL l k v), C, slc tKv true S' (putL l k v)] (.cons (RV_tmp rfl) (.cons (RV_tmp rfl) .nil)) ⟨S', _, Rdy.new, rfl, rfl⟩ (Ent.re [0, 1, 2, 4] rfl)
theorem tgetN_ok (E : World) (k : Ky) : Does Try.prog E 12 [.pointer none, str k] [] fun r L => r = .tuple #[str [], .bool false] ∧ L = [] := by
  refine Does.of Try.func12 rfl Try.ntmps12 rfl rfl fun F => ?_
  refine J.norm ?_
  refine J_seq ?_
  refine J_region ?_
  refine L_q (Q_assign rfl) rfl rfl rfl ?_
  refine L_q (Q_assign rfl) rfl rfl rfl ?_
  refine JL_nil ?_
  refine seqQ_normal ?_
  refine J_seq ?_
  refine J_seq ?_
  refine J_region ?_
  refine L_q (Q_move rfl) rfl rfl rfl ?_
  refine L_q ((Q_peql rfl rfl).as (v' := .bool true) rfl) rfl rfl rfl ?_
  refine JL_nil ?_
  refine seqQ_normal ?_
  refine J_condT rfl ?_
  refine J_seq ?_
  refine J_region ?_
  refine L_q (Q_assign rfl) rfl rfl rfl ?_
  refine L_q (Q_assign rfl) rfl rfl rfl ?_
  refine JL_nil ?_
  refine seqQ_normal ?_
  refine J_ret ?_
  refine seqQ_ret ?_
  exact retQ_ret _ [] (.cons (RV_tmp rfl) (.cons (RV_tmp rfl) .nil)) ⟨rfl, rfl⟩ (Ent.refl _)
theorem tputN_ok (E : World) (k v : Ky) : Does Try.prog E 19 [.pointer none, str k, str v] [] fun r L => r = .bool false ∧ L = [] := by
  refine Does.of Try.func19 rfl Try.ntmps19 rfl rfl fun F => ?_
  refine J.norm ?_
  refine J_seq ?_
  refine J_region ?_
  refine L_q (Q_assign rfl) rfl rfl rfl ?_
  refine JL_nil ?_
  refine seqQ_normal ?_
  refine J_seq ?_
  refine J_seq ?_
  refine J_region ?_
  refine L_q (Q_move rfl) rfl rfl rfl ?_
  refine L_q ((Q_peql rfl rfl).as (v' := .bool true) rfl) rfl rfl rfl ?_
  refine JL_nil ?_
  refine seqQ_normal ?_
  refine J_condT rfl ?_
  refine J_seq ?_
  refine J_region ?_
  refine L_q (Q_assign rfl) rfl rfl rfl ?_
  refine JL_nil ?_
  refine seqQ_normal ?_
  refine J_ret ?_
  refine seqQ_ret ?_
  exact retQ_ret _ [] (.cons (RV_tmp rfl) .nil) ⟨rfl, rfl⟩ (Ent.refl _)
theorem tdelN_ok (E : World) (k : Ky) : Does Try.prog E 18 [.pointer none, str k] [] fun r L => r = .bool false ∧ L = [] := by
  refine Does.of Try.func18 rfl Try.ntmps18 rfl rfl fun F => ?_
  refine J.norm ?_
  refine J_seq ?_
  refine J_region ?_
  refine L_q (Q_assign rfl) rfl rfl rfl ?_
  refine JL_nil ?_
  refine seqQ_normal ?_
  refine J_seq ?_
  refine J_seq ?_
  refine J_region ?_
  refine L_q (Q_move rfl) rfl rfl rfl ?_
  refine L_q (Q_move rfl) rfl rfl rfl ?_
  refine L_o rfl rfl rfl (O_call [] [0] (tgetN_ok E k) rfl rfl ?_)
  rintro _ _ ⟨rfl, rfl⟩
  refine JL.norm ?_
  refine L_q (Q_move rfl) rfl rfl rfl ?_
  refine L_q (Q_extract (v := str []) rfl rfl) rfl rfl rfl ?_
  refine L_q (Q_extract (v := .bool false) rfl rfl) rfl rfl rfl ?_
  refine L_q (Q_assign rfl) rfl rfl rfl ?_
  refine L_q (Q_assign rfl) rfl rfl rfl ?_
  refine JL_nil ?_
  refine seqQ_normal ?_
  refine J_seq ?_
  refine J_region ?_
  refine L_q (Q_move rfl) rfl rfl rfl ?_
  refine L_q ((Q_not rfl).as (v' := .bool true) rfl) rfl rfl rfl ?_
  refine JL_nil ?_
  refine seqQ_normal ?_
  refine J_condT rfl ?_
  refine J_seq ?_
  refine J_region ?_
  refine L_q (Q_assign rfl) rfl rfl rfl ?_
  refine JL_nil ?_
  refine seqQ_normal ?_
  refine J_ret ?_
  refine seqQ_ret ?_
  exact retQ_ret _ [] (.cons (RV_tmp rfl) .nil) ⟨rfl, rfl⟩ (Ent.refl _)
theorem tlenN_ok (E : World) : Does Try.prog E 14 [.pointer none] [] fun r L => r = .int .i64 0 ∧ L = [] := by
  refine Does.of Try.func14 rfl Try.ntmps14 rfl rfl fun F => ?_
  refine J.norm ?_
  refine J_seq ?_
  refine J_region ?_
  refine L_q (Q_assign rfl) rfl rfl rfl ?_
  refine JL_nil ?_
  refine seqQ_normal ?_
  refine J_seq ?_
  refine J_seq ?_
  refine J_region ?_
  refine L_q (Q_move rfl) rfl rfl rfl ?_
  refine L_q ((Q_peql rfl rfl).as (v' := .bool true) rfl) rfl rfl rfl ?_
  refine JL_nil ?_
  refine seqQ_normal ?_
  refine J_condT rfl ?_
  refine J_seq ?_
  refine J_region ?_
  refine L_q (Q_assign rfl) rfl rfl rfl ?_
  refine JL_nil ?_
  refine seqQ_normal ?_
  refine J_ret ?_
  refine seqQ_ret ?_
  exact retQ_ret _ [] (.cons (RV_tmp rfl) .nil) ⟨rfl, rfl⟩ (Ent.refl _)
theorem tdepthN_ok (E : World) : Does Try.prog E 20 [.pointer none] [] fun r L => r = .int .i64 0 ∧ L = [] := by
  refine Does.of Try.func20 rfl Try.ntmps20 rfl rfl fun F => ?_
  refine J.norm ?_
  refine J_seq ?_
  refine J_region ?_
  refine L_q (Q_assign rfl) rfl rfl rfl ?_
  refine JL_nil ?_
  refine seqQ_normal ?_
  refine J_seq ?_
  refine J_seq ?_
  refine J_region ?_
  refine L_q (Q_move rfl) rfl rfl rfl ?_
  refine L_o rfl rfl rfl (O_call [] [0] (tlenN_ok E) rfl rfl ?_)
  rintro _ _ ⟨rfl, rfl⟩
  refine JL.norm ?_
  refine L_q ((Q_eql rfl rfl).as (v' := .bool true) rfl) rfl rfl rfl ?_
  refine JL_nil ?_
  refine seqQ_normal ?_
  refine J_condT rfl ?_
  refine J_seq ?_
  refine J_region ?_
  refine L_q (Q_assign rfl) rfl rfl rfl ?_
  refine JL_nil ?_
  refine seqQ_normal ?_
  refine J_ret ?_
  refine seqQ_ret ?_
  exact retQ_ret _ [] (.cons (RV_tmp rfl) .nil) ⟨rfl, rfl⟩ (Ent.refl _)
theorem trangeN_ok (E : World) (f to : Ky) (many : Int) : Does Try.prog E 16 [.pointer none, str f, str to, .int .i64 many] [] fun r L => r = SV.nil.v ∧ L = [] := by
  refine Does.of Try.func16 rfl Try.ntmps16 rfl rfl fun F => ?_
  refine J.norm ?_
  refine J_seq ?_
  refine J_region ?_
  refine L_o rfl rfl rfl (O_box rfl fun b6 => ?_)
  refine L_o rfl rfl rfl (O_box rfl fun b7 => ?_)
  refine L_q (Q_assign rfl) rfl rfl rfl ?_
  refine JL_nil ?_
  refine seqQ_normal ?_
  refine J_seq ?_
  refine J_seq ?_
  refine J_region ?_
  refine L_q (Q_move rfl) rfl rfl rfl ?_
  refine L_q ((Q_peql rfl rfl).as (v' := .bool true) rfl) rfl rfl rfl ?_
  refine L_q (Q_move rfl) rfl rfl rfl ?_
  refine L_n rfl rfl rfl ?_
  refine L_n rfl rfl rfl ?_
  refine L_q (Q_pickT rfl rfl) rfl rfl rfl ?_
  refine JL_nil ?_
  refine seqQ_normal ?_
  refine J_condT rfl ?_
  refine J_seq ?_
  refine J_region ?_
  refine L_q (Q_assign rfl) rfl rfl rfl ?_
  refine JL_nil ?_
  refine seqQ_normal ?_
  refine J_ret ?_
  refine seqQ_ret ?_
  exact retQ_ret _ [] (.cons (RV_tmp rfl) .nil) ⟨rfl, rfl⟩ (Ent.re [2] rfl)
theorem trightN_ok (E : World) : Does Try.prog E 21 [.pointer none] [] fun r L => r = .bool true ∧ L = [] := by
  refine Does.of Try.func21 rfl Try.ntmps21 rfl rfl fun F => ?_
  refine J.norm ?_
  refine J_seq ?_
  refine J_region ?_
  refine L_q (Q_assign rfl) rfl rfl rfl ?_
  refine JL_nil ?_
  refine seqQ_normal ?_
  refine J_seq ?_
  refine J_seq ?_
  refine J_region ?_
  refine L_q (Q_move rfl) rfl rfl rfl ?_
  refine L_q ((Q_peql rfl rfl).as (v' := .bool true) rfl) rfl rfl rfl ?_
  refine JL_nil ?_
  refine seqQ_normal ?_
  refine J_condT rfl ?_
  refine J_seq ?_
  refine J_region ?_
  refine L_q (Q_assign rfl) rfl rfl rfl ?_
  refine JL_nil ?_
  refine seqQ_normal ?_
  refine J_ret ?_
  refine seqQ_ret ?_
  exact retQ_ret _ [] (.cons (RV_tmp rfl) .nil) ⟨rfl, rfl⟩ (Ent.refl _)
theorem tcloneN_ok (E : World) : Does Try.prog E 22 [.pointer none] [] fun r L => r = .pointer none ∧ L = [] := by
  refine Does.of Try.func22 rfl Try.ntmps22 rfl rfl fun F => ?_
  refine J.norm ?_
  refine J_seq ?_
  refine J_region ?_
  refine L_q (Q_assign rfl) rfl rfl rfl ?_
  refine JL_nil ?_
  refine seqQ_normal ?_
  refine J_seq ?_
  refine J_seq ?_
  refine J_region ?_
  refine L_q (Q_move rfl) rfl rfl rfl ?_
  refine L_q ((Q_peql rfl rfl).as (v' := .bool true) rfl) rfl rfl rfl ?_
  refine JL_nil ?_
  refine seqQ_normal ?_
  refine J_condT rfl ?_
  refine J_seq ?_
  refine J_region ?_
  refine L_q (Q_assign rfl) rfl rfl rfl ?_
  refine JL_nil ?_
  refine seqQ_normal ?_
  refine J_ret ?_
  refine seqQ_ret ?_
  exact retQ_ret _ [] (.cons (RV_tmp rfl) .nil) ⟨rfl, rfl⟩ (Ent.refl _)
theorem awake36_ok (E : World) : Does Try.prog E 9 [] [] fun v L => v = .bool true ∧ L = [] := by
  obtain ⟨a1, a2, a3, a4⟩ := aw0
  obtain ⟨d1, d2, d3, d4⟩ := awD
  refine Does.of Try.func9 rfl Try.ntmps9 rfl rfl fun F => ?_
  refine J.norm ?_
  refine J_seq ?_
  refine J_region ?_
  refine L_q (Q_assign rfl) rfl rfl rfl ?_
  refine JL_nil ?_
  refine seqQ_normal ?_
  refine J_seq ?_
  refine J_region ?_
  refine L_o rfl rfl rfl (O_call [] [0] (tnew_ok E) rfl rfl ?_)
  rintro _ _ ⟨p, rfl, rfl⟩
  refine JL.norm ?_
  refine L_q (Q_assign rfl) rfl rfl rfl ?_
  refine JL_nil ?_
  refine seqQ_normal ?_
  refine J_seq ?_
  refine J_seq ?_
  refine J_region ?_
  refine L_q (Q_move rfl) rfl rfl rfl ?_
  refine L_q ((Q_peql rfl rfl).as (v' := .bool false) rfl) rfl rfl rfl ?_
  refine JL_nil ?_
  refine seqQ_normal ?_
  refine J_condF rfl ?_
  refine J_skip ?_
  refine seqQ_normal ?_
  refine J_seq ?_
  have p1 := tput_ok E p [] [107] [49] (by decide)
  have p2 := tput_ok E p (putL [] [107] [49]) [107] [50] (by decide +kernel)
  rw [a1] at p1
  rw [a2] at p2
  refine J_region ?_
  refine L_q (Q_move rfl) rfl rfl rfl ?_
  refine L_o rfl rfl rfl (O_call [0] [1] p1 rfl rfl ?_)
  rintro _ _ ⟨rfl, rfl⟩
  refine JL.norm ?_
  refine L_q (Q_move rfl) rfl rfl rfl ?_
  refine L_o rfl rfl rfl (O_call [0] [1] p2 rfl rfl ?_)
  rintro _ _ ⟨rfl, rfl⟩
  refine JL.norm ?_
  refine L_q (Q_assign rfl) rfl rfl rfl ?_
  refine L_q (Q_assign rfl) rfl rfl rfl ?_
  refine JL_nil ?_
  refine seqQ_normal ?_
  refine J_seq ?_
  have g1 := tget_ok E p (awL 0) [107]
  rw [a3, a4] at g1
  refine J.ent (Ent.refl [treeA p (awL 0), F]) ?_
  refine J_region ?_
  refine L_q (Q_move rfl) rfl rfl rfl ?_
  refine L_o rfl rfl rfl (O_call [0] [1] g1 rfl rfl ?_)
  rintro _ _ ⟨rfl, rfl⟩
  refine JL.norm ?_
  refine L_q (Q_move rfl) rfl rfl rfl ?_
  refine L_q (Q_extract (v := str [50]) rfl rfl) rfl rfl rfl ?_
  refine L_q (Q_extract (v := .bool true) rfl rfl) rfl rfl rfl ?_
  refine L_q (Q_assign rfl) rfl rfl rfl ?_
  refine L_q (Q_assign rfl) rfl rfl rfl ?_
  refine JL_nil ?_
  refine seqQ_normal ?_
  refine J_seq ?_
  refine J_seq ?_
  refine J_region ?_
  refine L_q (Q_assign rfl) rfl rfl rfl ?_
  refine JL_nil ?_
  refine seqQ_normal ?_
  refine J_block ?_
  refine J.cutB (fun x ρ' L' => x = .normal ∧ envSub [(1, .pointer (some ⟨p, 0, none⟩)), (2, .bool true), (3, .bool false), (4, str [50]), (5, .bool true)] ρ' ∧ Ent L' [treeA p (awL 7), F]) ?_ ?_
  · refine J_loop (fun i : Nat => i ≤ 7) (fun i => [(1, .pointer (some ⟨p, 0, none⟩)), (2, .bool true), (3, .bool false), (4, str [50]), (5, .bool true), (6, .int .i64 (i : Int))]) (fun i => [treeA p (awL i), F]) (fun i => 7 - i) 0 (by decide) ⟨rfl, rfl, rfl, rfl, rfl, rfl, trivial⟩ (Ent.refl _) ?_
    intro i hi
    refine J_seq ?_
    refine J_seq ?_
    refine J_region ?_
    refine L_q (Q_move rfl) rfl rfl rfl ?_
    refine L_q (Q_lss rfl rfl) rfl rfl rfl ?_
    refine JL_nil ?_
    refine seqQ_normal ?_
    refine J_condD rfl (fun h => ?_) (fun h => ?_)
    · have hi7 : i < 7 := by omega
      have hb : (97 + (i : Int)) = ((97 + i : Nat) : Int) := by omega
      have hu8 : ((UInt8.ofNat (97 + i)).toNat : Int) = ((97 + i : Nat) : Int) := by
        rw [UInt8.toNat_ofNat']; omega
      have pi := tput_ok E p (awL i) [UInt8.ofNat (97 + i)] [120] (by have := awL_len i hi; omega)
      refine J_skip ?_
      refine seqQ_normal ?_
      refine J_seq ?_
      refine J_block ?_
      refine J_region ?_
      refine L_q (Q_move rfl) rfl rfl rfl ?_
      refine L_q (Q_move rfl) rfl rfl rfl ?_
      refine L_q (Q_add rfl rfl (by first | exact IntWalk.i64_in _ (by omega) | exact IntWalk.u8_in _ (by omega) | exact IntWalk.u32_in _ (by omega) | exact IntWalk.u64_in _ (by omega) | rfl)) rfl rfl rfl ?_
      refine L_q ((Q_cvt (r := ((UInt8.ofNat (97 + i)).toNat : Int)) rfl (by rw [hu8, hb]; exact IntWalk.u8_in _ (by omega)))) rfl rfl rfl ?_
      refine L_o rfl rfl rfl (O_litP (τ := tB) (m := 1) (sz := 1) [UInt8.ofNat (97 + i)] rfl rfl rfl rfl rfl rfl (by decide) (fun U => ?_))
      refine JL.norm ?_
      refine L_q (Q_b2s tB_enc (fun w h => h.rd 0 rfl) rfl) rfl rfl rfl ?_
      refine L_o rfl rfl rfl (O_call [1] [0,2] pi rfl rfl ?_)
      rintro _ _ ⟨rfl, rfl⟩
      refine JL.norm ?_
      refine JL_nil ?_
      refine blockQ_normal ?_
      refine seqQ_normal ?_
      refine J_region ?_
      refine L_q (Q_move rfl) rfl rfl rfl ?_
      refine L_q (Q_add rfl rfl (by first | exact IntWalk.i64_in _ (by omega) | exact IntWalk.u8_in _ (by omega) | exact IntWalk.u32_in _ (by omega) | exact IntWalk.u64_in _ (by omega) | rfl)) rfl rfl rfl ?_
      refine L_q (Q_assign rfl) rfl rfl rfl ?_
      refine JL_nil ?_
      exact loopQ_normal (i + 1) hi7 (by show 7 - (i + 1) < 7 - i; omega) ⟨rfl, rfl, rfl, rfl, rfl, rfl, trivial⟩ (Ent.re [0, 2] rfl)
    · obtain rfl : i = 7 := by omega
      refine J_exit ?_
      refine seqQ_exit ?_
      refine loopQ_exit ?_
      refine blockQ_hit ?_
      exact ⟨rfl, ⟨rfl, rfl, rfl, rfl, rfl, trivial⟩, Ent.refl _⟩
  rintro _ ρ3 L3 ⟨rfl, hsub, hent⟩
  refine seqQ_normal ?_
  refine J.sub hsub ?_
  refine J.ent hent ?_
  clear hsub hent
  refine J_seq ?_
  have l7 : (awL 7).length = 8 := by rw [awL_7]; rfl
  have rg := trange_ok E p (awL 7) [98] [100] 9 (by omega)
  rw [awR] at rg
  refine J_region ?_
  refine L_q (Q_move rfl) rfl rfl rfl ?_
  refine L_o rfl rfl rfl (O_call [0] [1] rg rfl rfl ?_)
  rintro _ _ ⟨S, rfl, rfl⟩
  refine JL.norm ?_
  refine L_q (Q_assign rfl) rfl rfl rfl ?_
  refine JL_nil ?_
  refine seqQ_normal ?_
  refine J_seq ?_
  have ln := tlen_ok E p (awL 7)
  rw [l7] at ln
  have e1 := tdel_ok E p (awL 7) [107] (by omega)
  rw [d1] at e1
  have e2 := tdel_ok E p (delL (awL 7) [107]) [107] (by omega)
  rw [d2] at e2
  have e3 := tlen_ok E p (delL (delL (awL 7) [107]) [107])
  rw [d4] at e3
  have hs0 : 0 < ([⟨[98], [120]⟩, ⟨[99], [120]⟩] : List Kv).length := by decide
  refine J_region ?_
  refine L_q (Q_move rfl) rfl rfl rfl ?_
  refine L_q (Q_move rfl) rfl rfl rfl ?_
  refine L_q (Q_move rfl) rfl rfl rfl ?_
  refine L_q ((Q_not rfl).as (v' := .bool true) rfl) rfl rfl rfl ?_
  refine L_q (Q_pickT rfl rfl) rfl rfl rfl ?_
  refine L_q (Q_move rfl) rfl rfl rfl ?_
  refine L_q (Q_move rfl) rfl rfl rfl ?_
  refine L_q ((Q_seql rfl rfl).as (v' := .bool true) rfl) rfl rfl rfl ?_
  refine L_q (Q_pickT rfl rfl) rfl rfl rfl ?_
  refine L_q (Q_move rfl) rfl rfl rfl ?_
  refine L_q (Q_move rfl) rfl rfl rfl ?_
  refine L_q (Q_pickT rfl rfl) rfl rfl rfl ?_
  refine L_q (Q_move rfl) rfl rfl rfl ?_
  refine L_q (Q_move rfl) rfl rfl rfl ?_
  refine L_o rfl rfl rfl (O_call [0] [1,2] ln rfl rfl ?_)
  rintro _ _ ⟨rfl, rfl⟩
  refine JL.norm ?_
  refine L_q ((Q_eql rfl rfl).as (v' := .bool true) rfl) rfl rfl rfl ?_
  refine L_q (Q_pickT rfl rfl) rfl rfl rfl ?_
  refine L_q (Q_move rfl) rfl rfl rfl ?_
  refine L_q (Q_move rfl) rfl rfl rfl ?_
  refine L_o rfl rfl rfl (O_call [0] [1,2] (tdepth_ok E p (awL 7) (by omega)) rfl rfl ?_)
  (rintro _ _ ⟨D, _, hD, rfl, rfl⟩; obtain rfl := depth_2 (by have := hD (by rw [awL_7]; simp); rwa [l7] at this))
  refine JL.norm ?_
  refine L_q ((Q_eql rfl rfl).as (v' := .bool true) rfl) rfl rfl rfl ?_
  refine L_q (Q_pickT rfl rfl) rfl rfl rfl ?_
  refine L_q (Q_move rfl) rfl rfl rfl ?_
  refine L_q (Q_move rfl) rfl rfl rfl ?_
  refine L_o rfl rfl rfl (O_call [0] [1,2] (tright_ok E p (awL 7) (by omega)) rfl rfl ?_)
  rintro _ _ ⟨rfl, rfl⟩
  refine JL.norm ?_
  refine L_q (Q_pickT rfl rfl) rfl rfl rfl ?_
  refine L_q (Q_move rfl) rfl rfl rfl ?_
  refine L_q (Q_move rfl) rfl rfl rfl ?_
  refine L_q (Q_lenAt 1 rfl rfl) rfl rfl rfl ?_
  refine L_q ((Q_eql rfl rfl).as (v' := .bool true) rfl) rfl rfl rfl ?_
  refine L_q (Q_pickT rfl rfl) rfl rfl rfl ?_
  refine L_q (Q_move rfl) rfl rfl rfl ?_
  refine L_q (Q_move rfl) rfl rfl rfl ?_
  refine L_q (Q_ixAt 1 0 rfl rfl rfl rfl hs0 rfl) rfl rfl rfl ?_
  refine L_q (Q_pfa rfl) rfl rfl rfl ?_
  refine L_q (Q_ldEAt 1 0 0 (v := str [98]) rfl rfl rfl rfl hs0 (by decide) rfl) rfl rfl rfl ?_
  refine L_q ((Q_seql rfl rfl).as (v' := .bool true) rfl) rfl rfl rfl ?_
  refine L_q (Q_pickT rfl rfl) rfl rfl rfl ?_
  refine L_q (Q_move rfl) rfl rfl rfl ?_
  refine L_q (Q_move rfl) rfl rfl rfl ?_
  refine L_o rfl rfl rfl (O_call [0] [1,2] e1 rfl rfl ?_)
  rintro _ _ ⟨rfl, rfl⟩
  refine JL.norm ?_
  refine L_q (Q_pickT rfl rfl) rfl rfl rfl ?_
  refine L_q (Q_move rfl) rfl rfl rfl ?_
  refine L_q (Q_move rfl) rfl rfl rfl ?_
  refine L_o rfl rfl rfl (O_call [0] [1,2] e2 rfl rfl ?_)
  rintro _ _ ⟨rfl, rfl⟩
  refine JL.norm ?_
  refine L_q ((Q_not rfl).as (v' := .bool true) rfl) rfl rfl rfl ?_
  refine L_q (Q_pickT rfl rfl) rfl rfl rfl ?_
  refine L_q (Q_move rfl) rfl rfl rfl ?_
  refine L_q (Q_move rfl) rfl rfl rfl ?_
  refine L_o rfl rfl rfl (O_call [0] [1,2] e3 rfl rfl ?_)
  rintro _ _ ⟨rfl, rfl⟩
  refine JL.norm ?_
  refine L_q ((Q_eql rfl rfl).as (v' := .bool true) rfl) rfl rfl rfl ?_
  refine L_q (Q_pickT rfl rfl) rfl rfl rfl ?_
  refine L_q (Q_assign rfl) rfl rfl rfl ?_
  refine JL_nil ?_
  refine seqQ_normal ?_
  refine J_ret ?_
  exact retQ_ret _ [] (.cons (RV_tmp rfl) .nil) ⟨rfl, rfl⟩ (Ent.re [2] rfl)
end Go.Proofs
