/- The law PipeOrder: its walk. -/
import Derived.Test.YtmmkepghmmbppaaOrdP
set_option autoImplicit false
namespace Go.Proofs
open Go.SL
structure Br where
  kind : Int
  at' : Int
  there : Bool
  text : By
abbrev brV (d : Br) : List Value := [.int .i64 d.kind, .int .i64 d.at', .bool d.there, str d.text]
def tBr : Ty Br := ⟨25, 4, brV, fun _ => rfl, by decide, fun a v hv => by simp [brV] at hv; rcases hv with rfl | rfl | rfl | rfl <;> rfl⟩
instance : TyI Try.prog tBr.e 4 (.agg #[.int .i64 0, .int .i64 0, .bool false, .string ⟨#[]⟩]) 40 := inferInstanceAs (TyI Try.prog 25 4 (.agg #[.int .i64 0, .int .i64 0, .bool false, .string ⟨#[]⟩]) 40)
instance : TyU Try.prog 22 (.slice tBr.e) := inferInstanceAs (TyU Try.prog 22 (.slice 25))
def tPt : Ty Nat := ⟨26, 1, fun p => [.pointer (some ⟨p, 0, none⟩)], fun _ => rfl, by decide, fun a v hv => by simp at hv; subst hv; rfl⟩
instance : TyI Try.prog tPt.e 1 (.pointer none) 8 := inferInstanceAs (TyI Try.prog 26 1 (.pointer none) 8)
instance : TyU Try.prog 28 (.slice tPt.e) := inferInstanceAs (TyU Try.prog 28 (.slice 26))
def atN (z : Int) (n : Nat) : Nat := (BitVec.ofInt 64 z).toNat % n
theorem u64_wrap (z : Int) : IntKind.u64.wrap z = ((BitVec.ofInt 64 z).toNat : Int) := by simp [IntKind.wrap, IntKind.signed, IntKind.bits]; omega
theorem pr_elt {α : Type} {me : Nat} (h : me < 2) (u v : α) (h2 : me < (pr me u v).length) : (pr me u v)[me] = u := by
  have := pr_me h u v
  rw [List.getElem?_eq_getElem h2] at this
  exact Option.some.inj this
abbrev chL (b7 b8 : Nat) (Ev T : SV) (l : List Br) (F : HProp) (i : Nat) (u w : En) : List HProp := [pipeA u.p u.st, slc tS true u.Ss u.se, slc tS true u.Sw u.wy, pipeA w.p w.st, slc tS true w.Ss w.se, slc tS true w.Sw w.wy, cel b7 (pr i u.Ss.v w.Ss.v) 30, cel b8 (pr i u.Sw.v w.Sw.v) 30, slc tPt true Ev (pr i u.p w.p), slc tBr false T l, F]
def ixO (i : Nat) : Nat := if i = 1 then 1 else 0
def upO (i : Nat) (x y : En) : En := if i = 1 then y else x
attribute [local irreducible] J JL QOp JOp seqQ blockQ loopQ retQ slc cel hex star pur stars Does RV Ent pAt scopeQ
attribute [local irreducible] mpC pipeA
theorem order_calls (E : World) (room : Int) (T : SV) (l : List Br) : Does Try.prog E 3 [.int .i64 room, T.v] [slc tBr false T l] fun v L => v = .bool true ∧ L = [] := by
  have hn := ppnew_ok E room
  obtain ⟨hR1, hR2⟩ := winSize_rng room
  generalize winSize room = R at *
  refine Does.of Try.func3 rfl Try.ntmps3 rfl rfl fun F => ?_
  refine J.norm ?_
  refine J_seq ?_
  refine J_region ?_
  refine L_q (Q_assign rfl) rfl rfl rfl ?_
  refine JL_nil ?_
  refine seqQ_normal ?_
  refine J_seq ?_
  refine J_seq ?_
  refine J_region ?_
  refine L_q (Q_move rfl) rfl rfl rfl ?_
  refine L_q (Q_lenAt 0 rfl rfl) rfl rfl rfl ?_
  refine L_q (Q_gtr rfl rfl) rfl rfl rfl ?_
  refine JL_nil ?_
  refine seqQ_normal ?_
  refine J_condD rfl (fun h0 => ?_) (fun h0 => ?_)
  · refine J_seq ?_
    refine J_region ?_
    refine L_o rfl rfl rfl (O_call [] [0,1] (awake_ok E) rfl rfl ?_)
    rintro _ _ ⟨rfl, rfl⟩
    refine JL.norm ?_
    refine L_q (Q_assign rfl) rfl rfl rfl ?_
    refine JL_nil ?_
    refine seqQ_normal ?_
    refine J_ret ?_
    refine seqQ_ret ?_
    exact retQ_ret _ [] (.cons (RV_tmp rfl) .nil) ⟨rfl, rfl⟩ (Ent.re [1] rfl)
  have hl : l.length ≤ 150 := by omega
  refine J_skip ?_
  refine seqQ_normal ?_
  refine J_seq ?_
  refine J_seq ?_
  refine J_region ?_
  refine L_q (Q_assign rfl) rfl rfl rfl ?_
  refine JL_nil ?_
  refine seqQ_normal ?_
  refine J_block ?_
  refine J_loop (fun k : Nat => k ≤ l.length ∧ ∀ x ∈ l.take k, x.text.length ≤ 500) (fun k => [(0, .int .i64 room), (1, T.v), (5, .int .i64 (k : Int))]) (fun _ => [slc tBr false T l, F]) (fun k => l.length - k) 0 ⟨by omega, by simp⟩ ⟨rfl, rfl, rfl, trivial⟩ (Ent.refl _) ?_
  rintro k ⟨hk, hall⟩
  refine J_seq ?_
  refine J_seq ?_
  refine J_region ?_
  refine L_q (Q_move rfl) rfl rfl rfl ?_
  refine L_q (Q_move rfl) rfl rfl rfl ?_
  refine L_q (Q_lenAt 0 rfl rfl) rfl rfl rfl ?_
  refine L_q (Q_lss rfl rfl) rfl rfl rfl ?_
  refine JL_nil ?_
  refine seqQ_normal ?_
  refine J_condD rfl (fun h => ?_) (fun h => ?_)
  · have hlt : k < l.length := by omega
    by_cases h4 : l[k].text.length > 500
    · refine J_skip ?_
      refine seqQ_normal ?_
      refine J_seq ?_
      refine J_block ?_
      refine J_seq ?_
      refine J_region ?_
      refine L_q (Q_move rfl) rfl rfl rfl ?_
      refine L_q (Q_move rfl) rfl rfl rfl ?_
      refine L_q (Q_ixAt 0 k rfl rfl rfl rfl hlt rfl) rfl rfl rfl ?_
      refine L_q (Q_pfa rfl) rfl rfl rfl ?_
      refine L_q (Q_ldEAt 0 k 3 (v := str l[k].text) rfl rfl rfl rfl hlt (by decide) rfl) rfl rfl rfl ?_
      refine L_q (Q_slen rfl) rfl rfl rfl ?_
      refine L_q ((Q_gtr rfl rfl).as (v' := .bool true) (congrArg Value.bool (decide_eq_true (by omega)))) rfl rfl rfl ?_
      refine JL_nil ?_
      refine seqQ_normal ?_
      refine J_condT rfl ?_
      refine J_seq ?_
      refine J_region ?_
      refine L_o rfl rfl rfl (O_call [] [0,1] (awake_ok E) rfl rfl ?_)
      rintro _ _ ⟨rfl, rfl⟩
      refine JL.norm ?_
      refine L_q (Q_assign rfl) rfl rfl rfl ?_
      refine JL_nil ?_
      refine seqQ_normal ?_
      refine J_ret ?_
      refine blockQ_ret ?_
      refine seqQ_ret ?_
      refine loopQ_ret ?_
      refine blockQ_ret ?_
      refine seqQ_ret ?_
      exact retQ_ret _ [] (.cons (RV_tmp rfl) .nil) ⟨rfl, rfl⟩ (Ent.re [1] rfl)
    · refine J_skip ?_
      refine seqQ_normal ?_
      refine J_seq ?_
      refine J_block ?_
      refine J_seq ?_
      refine J_region ?_
      refine L_q (Q_move rfl) rfl rfl rfl ?_
      refine L_q (Q_move rfl) rfl rfl rfl ?_
      refine L_q (Q_ixAt 0 k rfl rfl rfl rfl hlt rfl) rfl rfl rfl ?_
      refine L_q (Q_pfa rfl) rfl rfl rfl ?_
      refine L_q (Q_ldEAt 0 k 3 (v := str l[k].text) rfl rfl rfl rfl hlt (by decide) rfl) rfl rfl rfl ?_
      refine L_q (Q_slen rfl) rfl rfl rfl ?_
      refine L_q ((Q_gtr rfl rfl).as (v' := .bool false) (congrArg Value.bool (decide_eq_false (by omega)))) rfl rfl rfl ?_
      refine JL_nil ?_
      refine seqQ_normal ?_
      refine J_condF rfl ?_
      refine J_skip ?_
      refine blockQ_normal ?_
      refine seqQ_normal ?_
      refine J_region ?_
      refine L_q (Q_move rfl) rfl rfl rfl ?_
      refine L_q (Q_add rfl rfl (by first | exact IntWalk.i64_in _ (by omega) | exact IntWalk.u8_in _ (by omega) | exact IntWalk.u32_in _ (by omega) | exact IntWalk.u64_in _ (by omega) | rfl)) rfl rfl rfl ?_
      refine L_q (Q_assign rfl) rfl rfl rfl ?_
      refine JL_nil ?_
      refine loopQ_normal (k + 1) ⟨hlt, fun x hx => ?_⟩ (by omega) ⟨rfl, rfl, rfl, trivial⟩ (Ent.refl _)
      rw [List.take_succ_eq_append_getElem hlt, List.mem_append, List.mem_singleton] at hx
      rcases hx with hx | rfl
      · exact hall x hx
      · omega
  obtain rfl : k = l.length := by omega
  rw [List.take_length] at hall
  refine J_exit ?_
  refine seqQ_exit ?_
  refine loopQ_exit ?_
  refine blockQ_hit ?_
  refine seqQ_normal ?_
  refine J_seq ?_
  refine J_region ?_
  refine L_q (Q_move rfl) rfl rfl rfl ?_
  refine L_o rfl rfl rfl (O_call [] [0,1] hn rfl rfl ?_)
  rintro _ _ ⟨p0, rfl, rfl⟩
  refine JL.norm ?_
  refine L_q (Q_move rfl) rfl rfl rfl ?_
  refine L_o rfl rfl rfl (O_call [] [0,1,2] hn rfl rfl ?_)
  rintro _ _ ⟨p1, rfl, rfl⟩
  refine JL.norm ?_
  refine L_o rfl rfl rfl (O_litP (τ := tPt) (m := 2) (sz := 1) [p0, p1] rfl rfl rfl rfl rfl rfl (by decide) (fun Ev => ?_))
  refine JL.norm ?_
  refine L_q (Q_assign rfl) rfl rfl rfl ?_
  refine JL_nil ?_
  refine seqQ_normal ?_
  refine J_seq ?_
  refine J_region ?_
  refine L_o rfl rfl rfl (O_alloc fun b7 => ?_)
  refine L_o rfl rfl rfl (O_alloc fun b8 => ?_)
  refine JL_nil ?_
  refine seqQ_normal ?_
  refine J_seq ?_
  refine J_seq ?_
  refine J_region ?_
  refine L_q (Q_assign rfl) rfl rfl rfl ?_
  refine JL_nil ?_
  refine seqQ_normal ?_
  refine J_block ?_
  refine J.ent (Ent.mk fun _ _ h => ((((h.lay_nil tS true).lay_nil tS true).lay_nil tS true).lay_nil tS true : Sat _ _ (slc tS true SV.nil [] :: slc tS true SV.nil [] :: slc tS true SV.nil [] :: slc tS true SV.nil [] :: _))) ?_
  refine J_loop (fun i : Nat × En × En => i.1 ≤ l.length ∧ Both i.1 i.2.1 i.2.2) (fun i => [(1, T.v), (6, Ev.v), (7, .pointer (some ⟨b7, 0, none⟩)), (8, .pointer (some ⟨b8, 0, none⟩)), (9, .int .i64 (i.1 : Int))]) (fun i => chL b7 b8 Ev T l F 0 i.2.1 i.2.2) (fun i => l.length - i.1) (0, ⟨p0, new R, [], SV.nil, [], SV.nil⟩, ⟨p1, new R, [], SV.nil, [], SV.nil⟩) ⟨by simp, EI.new hR1 hR2, EI.new hR1 hR2, by simp, by simp⟩ ⟨rfl, rfl, rfl, rfl, rfl, trivial⟩ (Ent.re [8, 0, 1, 7, 2, 3, 5, 4, 6, 9, 10] rfl) ?_
  rintro ⟨k, x0, x1⟩ ⟨hk, hB⟩
  dsimp only [chL] at hk hB ⊢
  refine J_seq ?_
  refine J_seq ?_
  refine J_region ?_
  refine L_q (Q_move rfl) rfl rfl rfl ?_
  refine L_q (Q_move rfl) rfl rfl rfl ?_
  refine L_q (Q_lenAt 9 rfl rfl) rfl rfl rfl ?_
  refine L_q (Q_lss rfl rfl) rfl rfl rfl ?_
  refine JL_nil ?_
  refine seqQ_normal ?_
  refine J_condD rfl (fun h => ?_) (fun h => ?_)
  · have hlt : k < l.length := by omega
    have htx := hall l[k] (List.getElem_mem hlt)
    have hmo : moment (k : Int) = true := decide_eq_true (by omega)
    refine J_skip ?_
    refine seqQ_normal ?_
    refine J_seq ?_
    refine J_block ?_
    refine J_seq ?_
    refine J_region ?_
    refine L_q (Q_assign rfl) rfl rfl rfl ?_
    refine JL_nil ?_
    refine seqQ_normal ?_
    refine J_seq ?_
    refine J_seq ?_
    refine J.cut0 (fun e ρ' L' => e = .normal ∧ ∃ (me : Nat) (a b : En), me < 2 ∧ Both k a b ∧ envSub [(1, T.v), (6, Ev.v), (7, .pointer (some ⟨b7, 0, none⟩)), (8, .pointer (some ⟨b8, 0, none⟩)), (9, .int .i64 (k : Int)), (10, .int .i64 (me : Int))] ρ' ∧ Ent L' (chL b7 b8 Ev T l F me a b)) ?_ ?_
    · cases hth : l[k].there with
      | true =>
        refine J_region ?_
        refine L_q (Q_move rfl) rfl rfl rfl ?_
        refine L_q (Q_move rfl) rfl rfl rfl ?_
        refine L_q (Q_ixAt 9 k rfl rfl rfl rfl hlt rfl) rfl rfl rfl ?_
        refine L_q (Q_pfa rfl) rfl rfl rfl ?_
        refine L_q (Q_ldEAt 9 k 2 (v := .bool true) rfl rfl rfl rfl hlt (by decide) (by simp [tBr, hth])) rfl rfl rfl ?_
        refine JL_nil ?_
        refine seqQ_normal ?_
        refine J_condT rfl ?_
        refine J_region ?_
        refine L_q (Q_assign rfl) rfl rfl rfl ?_
        refine JL_nil ?_
        exact ⟨rfl, 1, x1, x0, by decide, hB.swap, ⟨rfl, rfl, rfl, rfl, rfl, rfl, trivial⟩, Ent.re [3, 4, 5, 0, 1, 2, 6, 7, 8, 9, 10] rfl⟩
      | false =>
        refine J_region ?_
        refine L_q (Q_move rfl) rfl rfl rfl ?_
        refine L_q (Q_move rfl) rfl rfl rfl ?_
        refine L_q (Q_ixAt 9 k rfl rfl rfl rfl hlt rfl) rfl rfl rfl ?_
        refine L_q (Q_pfa rfl) rfl rfl rfl ?_
        refine L_q (Q_ldEAt 9 k 2 (v := .bool false) rfl rfl rfl rfl hlt (by decide) (by simp [tBr, hth])) rfl rfl rfl ?_
        refine JL_nil ?_
        refine seqQ_normal ?_
        refine J_condF rfl ?_
        refine J_skip ?_
        exact ⟨rfl, 0, x0, x1, by decide, hB, ⟨rfl, rfl, rfl, rfl, rfl, rfl, trivial⟩, Ent.refl _⟩
    rintro _ ρ' L' ⟨rfl, me, a, b, hme, hB, hsub, hent⟩
    refine seqQ_normal ?_
    refine J.sub hsub ?_
    refine J.ent hent ?_
    clear hsub hent
    dsimp only [chL]
    have hot : 1 - me < 2 := by omega
    have gS := pr_me hme a.Ss.v b.Ss.v
    have gW := pr_me hme a.Sw.v b.Sw.v
    have gW2 := pr_ot hme a.Sw.v b.Sw.v
    have hpl : me < (pr me a.p b.p).length := by rw [pr_len]; exact hme
    have gp := pr_elt hme a.p b.p hpl
    have hwa := hB.wa
    have hwb := hB.wb
    have hsl := hB.ea.v.sl
    rw [hB.ea.sent] at hsl
    refine J_seq ?_
    refine J_region ?_
    refine L_q (Q_move rfl) rfl rfl rfl ?_
    refine L_q (Q_ia (sz := 1) me rfl rfl rfl hme (show 0 + me * 1 = me by omega)) rfl rfl rfl ?_
    refine L_q (Q_ld 7 rfl rfl rfl gW) rfl rfl rfl ?_
    refine L_q (Q_lenAt 2 rfl rfl) rfl rfl rfl ?_
    refine L_q (Q_assign rfl) rfl rfl rfl ?_
    refine JL_nil ?_
    refine seqQ_normal ?_
    refine J_seq ?_
    refine J_region ?_
    refine L_q (Q_assign rfl) rfl rfl rfl ?_
    refine JL_nil ?_
    refine seqQ_normal ?_
    refine J_seq ?_
    refine J_seq ?_
    refine J.cut0 (fun e ρ' L' => e = .normal ∧ ∃ i : Nat, (0 < a.wy.length → i < a.wy.length) ∧ envSub [(1, T.v), (6, Ev.v), (7, .pointer (some ⟨b7, 0, none⟩)), (8, .pointer (some ⟨b8, 0, none⟩)), (9, .int .i64 (k : Int)), (10, .int .i64 (me : Int)), (11, .int .i64 (a.wy.length : Int)), (12, .int .i64 (i : Int))] ρ' ∧ L' = chL b7 b8 Ev T l F me a b) ?_ ?_
    · by_cases hn0 : 0 < a.wy.length
      · have hmod : atN l[k].at' a.wy.length < a.wy.length := Nat.mod_lt _ hn0
        refine J_region ?_
        refine L_q (Q_move rfl) rfl rfl rfl ?_
        refine L_q ((Q_gtr rfl rfl).as (v' := .bool true) (congrArg Value.bool (decide_eq_true (by omega)))) rfl rfl rfl ?_
        refine JL_nil ?_
        refine seqQ_normal ?_
        refine J_condT rfl ?_
        refine J_region ?_
        refine L_q (Q_move rfl) rfl rfl rfl ?_
        refine L_q (Q_move rfl) rfl rfl rfl ?_
        refine L_q (Q_ixAt 9 k rfl rfl rfl rfl hlt rfl) rfl rfl rfl ?_
        refine L_q (Q_pfa rfl) rfl rfl rfl ?_
        refine L_q (Q_ldEAt 9 k 1 (v := .int .i64 l[k].at') rfl rfl rfl rfl hlt (by decide) rfl) rfl rfl rfl ?_
        refine L_q (Q_cvt rfl (u64_wrap l[k].at')) rfl rfl rfl ?_
        refine L_q (Q_move rfl) rfl rfl rfl ?_
        refine L_q ((Q_cvtN a.wy.length rfl rfl).as (v' := .int .u64 (a.wy.length : Int)) (by rw [Nat.mod_eq_of_lt (show a.wy.length < 2 ^ IntKind.u64.bits from Nat.lt_of_le_of_lt hwa (Nat.lt_of_le_of_lt (Nat.mul_le_mul_left 64 (Nat.le_trans hk hl)) (by decide)))])) rfl rfl rfl ?_
        refine L_q (Q_rem (r := (atN l[k].at' a.wy.length : Int)) rfl rfl (by omega) (by rw [← Int.ofNat_tmod]; rfl)) rfl rfl rfl ?_
        refine L_q (Q_cvt (r := (atN l[k].at' a.wy.length : Int)) rfl (IntWalk.i64_in _ (by omega))) rfl rfl rfl ?_
        refine L_q (Q_assign rfl) rfl rfl rfl ?_
        refine JL_nil ?_
        exact ⟨rfl, atN l[k].at' a.wy.length, fun _ => hmod, ⟨rfl, rfl, rfl, rfl, rfl, rfl, rfl, rfl, trivial⟩, rfl⟩
      · skip
        refine J_region ?_
        refine L_q (Q_move rfl) rfl rfl rfl ?_
        refine L_q ((Q_gtr rfl rfl).as (v' := .bool false) (congrArg Value.bool (decide_eq_false (by omega)))) rfl rfl rfl ?_
        refine JL_nil ?_
        refine seqQ_normal ?_
        refine J_condF rfl ?_
        refine J_skip ?_
        exact ⟨rfl, 0, fun h => absurd h hn0, ⟨rfl, rfl, rfl, rfl, rfl, rfl, rfl, rfl, trivial⟩, rfl⟩
    rintro _ ρ' L' ⟨rfl, at0, hat, hsub, rfl⟩
    refine seqQ_normal ?_
    refine J.sub hsub ?_
    clear hsub
    dsimp only [chL]
    refine J_seq ?_
    refine J_seq ?_
    refine J_region ?_
    refine L_q (Q_move rfl) rfl rfl rfl ?_
    refine L_q (Q_move rfl) rfl rfl rfl ?_
    refine L_q (Q_ixAt 9 k rfl rfl rfl rfl hlt rfl) rfl rfl rfl ?_
    refine L_q (Q_ldEAAt 9 k 0 (vs := brV l[k]) rfl rfl rfl rfl hlt (by decide) rfl) rfl rfl rfl ?_
    refine L_o rfl rfl rfl (O_alloc fun b13 => ?_)
    refine L_s rfl rfl (O_stW 0 rfl rfl rfl rfl ?_)
    refine JL.norm ?_
    refine JL_nil ?_
    refine seqQ_normal ?_
    refine J_block ?_
    refine J_seq ?_
    refine J.cut (fun e ρ' L' => e = .normal ∧ ∃ a2 b2 : En, Both (k + 1) a2 b2 ∧ a2.wy.length = a.wy.length ∧ envSub [(1, T.v), (6, Ev.v), (7, .pointer (some ⟨b7, 0, none⟩)), (8, .pointer (some ⟨b8, 0, none⟩)), (9, .int .i64 (k : Int)), (10, .int .i64 (me : Int)), (11, .int .i64 (a.wy.length : Int)), (12, .int .i64 (at0 : Int))] ρ' ∧ Ent L' (chL b7 b8 Ev T l F me a2 b2)) ?_ ?_
    · by_cases c0 : l[k].kind = 0
      · have hs := psend_ok E a.p a.st k l[k].text hB.ea.v (by omega)
        refine J_region ?_
        refine L_q (Q_fa0 rfl) rfl rfl rfl ?_
        refine L_q (Q_ld 0 rfl rfl rfl rfl) rfl rfl rfl ?_
        refine L_q ((Q_eql rfl rfl).as (v' := .bool true) (congrArg Value.bool (decide_eq_true c0))) rfl rfl rfl ?_
        refine L_q (Q_assign rfl) rfl rfl rfl ?_
        refine JL_nil ?_
        refine seqQ_normal ?_
        refine J_condT rfl ?_
        refine J_seq ?_
        by_cases he : sendE a.st l[k].text = 0
        · have hB2 : Both (k + 1) { a with st := sendS a.st l[k].text, se := a.se ++ [l[k].text] } b := ⟨hB.ea.send he, (hB.eb.grow l[k].text).mono (by omega), by show a.wy.length ≤ _; omega, by omega⟩
          rw [he] at hs
          have hset := fun v => pr_setMe hme a.Ss.v b.Ss.v v
          refine J_drawH [9,0] [0, 1, 2, 3, 4, 5, 7] (.quiet 0 (.quiet 1 (.quiet 2 (.quiet 3 (.quiet 4 (.quiet 5 (.loud 6 (.quiet 7 .done)))))))) Try.mixed (by kernel_rfl) (by kernel_rfl) (by repeat (first | exact retQ_noP | refine seqQ_noP ?_ | refine blockQ_noP ?_ | refine loopQ_noP ?_ | refine scopeQ_noP ?_ | (intro _ _ _ h; cases h.1))) ?_
          refine S_q (Ent.re [9,0] rfl) rfl (Q_move rfl) rfl rfl rfl ?_
          refine S_q (Ent.re [9,0] rfl) rfl (Q_move rfl) rfl rfl rfl ?_
          refine S_q (Ent.re [9,0] rfl) rfl (Q_ixAt 0 me rfl rfl rfl rfl hpl rfl) rfl rfl rfl ?_
          refine S_q (Ent.re [9,0] rfl) rfl (Q_ldEAt 0 me 0 (v := .pointer (some ⟨a.p, 0, none⟩)) rfl rfl rfl rfl hpl (by decide) (by rw [gp]; rfl)) rfl rfl rfl ?_
          refine S_q (Ent.re [9,0] rfl) rfl (Q_fa0 rfl) rfl rfl rfl ?_
          refine S_q (Ent.re [9,0] rfl) rfl (Q_ld 1 rfl rfl rfl rfl) rfl rfl rfl ?_
          refine S_o rfl rfl rfl rfl (O_call [1] [0,2,3,4,5,6,7,8,9,10,11] hs rfl rfl ?_)
          (rintro _ _ ⟨rfl, rfl⟩; refine ⟨_, fun _ => ⟨Ent.reN [9,1] rfl, Ent.refl _⟩, ?_⟩)
          refine JS.norm ?_
          refine S_q (Ent.re [9,1] rfl) rfl ((Q_eql rfl rfl).as (v' := .bool true) rfl) rfl rfl rfl ?_
          refine S_nil ?_
          refine seqQ_normal ?_
          refine J_condT rfl ?_
          refine J.ent (Ent.mk fun _ _ h => (h.lay_nil tS true : Sat _ _ (slc tS true SV.nil [] :: _))) ?_
          refine J_drawH [8,2] [0, 1, 2, 3, 5, 6, 9] (.quiet 0 (.quiet 1 (.quiet 2 (.quiet 3 (.quiet 5 (.quiet 6 (.both 4 (.loud 7 (.loud 8 (.quiet 9 (.loud 10 .done)))) 7 (.loud 4 (.loud 8 (.quiet 9 (.loud 10 .done))))))))))) Try.mixed (by kernel_rfl) (by kernel_rfl) (by repeat (first | exact retQ_noP | refine seqQ_noP ?_ | refine blockQ_noP ?_ | refine loopQ_noP ?_ | refine scopeQ_noP ?_ | (intro _ _ _ h; cases h.1))) ?_
          refine S_q (Ent.re [8,2] rfl) rfl (Q_move rfl) rfl rfl rfl ?_
          refine S_q (Ent.re [8,2] rfl) rfl (Q_move rfl) rfl rfl rfl ?_
          refine S_q (Ent.re [8,2] rfl) rfl (Q_ia (sz := 1) me rfl rfl rfl hme (show 0 + me * 1 = me by omega)) rfl rfl rfl ?_
          refine S_q (Ent.re [8,2] rfl) rfl (Q_ld 0 rfl rfl rfl gS) rfl rfl rfl ?_
          refine S_q (Ent.re [8,2] rfl) rfl (Q_fa0 rfl) rfl rfl rfl ?_
          refine S_q (Ent.re [8,2] rfl) rfl (Q_ld 1 rfl rfl rfl rfl) rfl rfl rfl ?_
          refine S_both ?_ ?_
          · refine S_o rfl rfl rfl rfl (O_app (τ := tS) 0 rfl (fun w h => h.rd 3 rfl) rfl rfl rfl rfl (by simp only [List.length_nil]; omega) (by decide) (fun S1 => ⟨_, fun _ => ⟨Ent.reN [8,2] rfl, Ent.refl _⟩, ?_⟩))
            refine JS.norm ?_
            refine S_o rfl rfl rfl rfl (O_litP (τ := tS) (m := 1) (sz := 1) [l[k].text] rfl rfl rfl rfl rfl rfl (by decide) (fun U => ⟨_, fun _ => ⟨Ent.reN [9,3] rfl, Ent.refl _⟩, ?_⟩))
            refine JS.norm ?_
            refine S_o rfl rfl rfl rfl (O_app (τ := tS) 1 rfl (fun w h => h.rd 0 rfl) rfl rfl rfl rfl (by simp only [List.nil_append, List.length_singleton]; omega) (by decide) (fun S2 => ⟨_, fun _ => ⟨Ent.reN [9,3] rfl, Ent.refl _⟩, ?_⟩))
            refine JS.norm ?_
            refine S_q (Ent.re [9,3] rfl) rfl (Q_ia (sz := 1) me rfl rfl rfl hme (show 0 + me * 1 = me by omega)) rfl rfl rfl ?_
            refine S_s rfl rfl rfl (O_st1 9 rfl rfl rfl rfl rfl (cs' := pr me S2.v b.Ss.v) ⟨[], free_no (by kernel_rfl), ?_⟩)
            refine JS.norm ?_
            refine S_nil ?_
            refine blockQ_normal ?_
            exact ⟨rfl, { a with st := sendS a.st l[k].text, se := a.se ++ [l[k].text], Ss := S2 }, b, ⟨hB2.ea, hB2.eb, hB2.wa, hB2.wb⟩, rfl, ⟨rfl, rfl, rfl, rfl, rfl, rfl, rfl, rfl, trivial⟩, Ent.re [2, 1, 5, 6, 7, 8, 9, 10, 11, 12, 13] rfl⟩
          · refine S_o rfl rfl rfl rfl (O_litP (τ := tS) (m := 1) (sz := 1) [l[k].text] rfl rfl rfl rfl rfl rfl (by decide) (fun U => ⟨_, fun _ => ⟨Ent.reN [9,3] rfl, Ent.refl _⟩, ?_⟩))
            refine JS.norm ?_
            refine S_o rfl rfl rfl rfl (O_app (τ := tS) 1 rfl (fun w h => h.rd 4 rfl) rfl rfl rfl rfl (by simp only [List.length_nil]; omega) (by decide) (fun S1 => ⟨_, fun _ => ⟨Ent.reN [9,3] rfl, Ent.refl _⟩, ?_⟩))
            refine JS.norm ?_
            refine S_o rfl rfl rfl rfl (O_app (τ := tS) 1 rfl (fun w h => h.rd 0 rfl) rfl rfl rfl rfl (by simp only [List.nil_append, List.length_singleton]; omega) (by decide) (fun S2 => ⟨_, fun _ => ⟨Ent.reN [9,3] rfl, Ent.refl _⟩, ?_⟩))
            refine JS.norm ?_
            refine S_q (Ent.re [9,3] rfl) rfl (Q_ia (sz := 1) me rfl rfl rfl hme (show 0 + me * 1 = me by omega)) rfl rfl rfl ?_
            refine S_s rfl rfl rfl (O_st1 9 rfl rfl rfl rfl rfl (cs' := pr me S2.v b.Ss.v) ⟨[], free_no (by kernel_rfl), ?_⟩)
            refine JS.norm ?_
            refine S_nil ?_
            refine blockQ_normal ?_
            exact ⟨rfl, { a with st := sendS a.st l[k].text, se := a.se ++ [l[k].text], Ss := S2 }, b, ⟨hB2.ea, hB2.eb, hB2.wa, hB2.wb⟩, rfl, ⟨rfl, rfl, rfl, rfl, rfl, rfl, rfl, rfl, trivial⟩, Ent.re [2, 1, 5, 6, 7, 8, 9, 10, 11, 12, 13] rfl⟩
        · have e2 : sendS a.st l[k].text = a.st := by unfold sendS; rw [if_neg he]
          rw [e2] at hs
          refine J_drawH [9,0] [0, 1, 2, 3, 4, 5, 7] (.quiet 0 (.quiet 1 (.quiet 2 (.quiet 3 (.quiet 4 (.quiet 5 (.loud 6 (.quiet 7 .done)))))))) Try.mixed (by kernel_rfl) (by kernel_rfl) (by repeat (first | exact retQ_noP | refine seqQ_noP ?_ | refine blockQ_noP ?_ | refine loopQ_noP ?_ | refine scopeQ_noP ?_ | (intro _ _ _ h; cases h.1))) ?_
          refine S_q (Ent.re [9,0] rfl) rfl (Q_move rfl) rfl rfl rfl ?_
          refine S_q (Ent.re [9,0] rfl) rfl (Q_move rfl) rfl rfl rfl ?_
          refine S_q (Ent.re [9,0] rfl) rfl (Q_ixAt 0 me rfl rfl rfl rfl hpl rfl) rfl rfl rfl ?_
          refine S_q (Ent.re [9,0] rfl) rfl (Q_ldEAt 0 me 0 (v := .pointer (some ⟨a.p, 0, none⟩)) rfl rfl rfl rfl hpl (by decide) (by rw [gp]; rfl)) rfl rfl rfl ?_
          refine S_q (Ent.re [9,0] rfl) rfl (Q_fa0 rfl) rfl rfl rfl ?_
          refine S_q (Ent.re [9,0] rfl) rfl (Q_ld 1 rfl rfl rfl rfl) rfl rfl rfl ?_
          refine S_o rfl rfl rfl rfl (O_call [1] [0,2,3,4,5,6,7,8,9,10,11] hs rfl rfl ?_)
          (rintro _ _ ⟨rfl, rfl⟩; refine ⟨_, fun _ => ⟨Ent.reN [9,1] rfl, Ent.refl _⟩, ?_⟩)
          refine JS.norm ?_
          refine S_q (Ent.re [9,1] rfl) rfl ((Q_eql rfl rfl).as (v' := .bool false) (congrArg Value.bool (decide_eq_false he))) rfl rfl rfl ?_
          refine S_nil ?_
          refine seqQ_normal ?_
          refine J_condF rfl ?_
          refine J_skip ?_
          refine blockQ_normal ?_
          exact ⟨rfl, a, b, hB.next, rfl, ⟨rfl, rfl, rfl, rfl, rfl, rfl, rfl, rfl, trivial⟩, Ent.re [0, 2, 3, 4, 5, 6, 7, 8, 9, 10, 11] rfl⟩
      refine J_region ?_
      refine L_q (Q_fa0 rfl) rfl rfl rfl ?_
      refine L_q (Q_ld 0 rfl rfl rfl rfl) rfl rfl rfl ?_
      refine L_q ((Q_eql rfl rfl).as (v' := .bool false) (congrArg Value.bool (decide_eq_false c0))) rfl rfl rfl ?_
      refine L_q (Q_assign rfl) rfl rfl rfl ?_
      refine JL_nil ?_
      refine seqQ_normal ?_
      refine J_condF rfl ?_
      refine J_seq ?_
      by_cases c1 : l[k].kind = 1
      · have hp := ppoll_ok E a.p a.st k (k : Int) hB.ea.v (by omega) hmo
        have hol := pollO_len hB.ea.v (k : Int)
        have hB2 : Both (k + 1) { a with st := pollS a.st (k : Int) } { b with wy := b.wy ++ pollO a.st (k : Int) } := ⟨(hB.ea.poll (k : Int)).mono (by omega), (hB.eb.way (fun f hf => by
          rcases List.mem_append.1 hf with hf | hf
          · exact .inl hf
          · exact .inr (hB.ea.out (k : Int) f hf))).mono (by omega), by show a.wy.length ≤ _; omega, by simp only [List.length_append]; omega⟩
        generalize pollO a.st (k : Int) = out at *
        have hset := fun v => pr_setOt hme a.Sw.v b.Sw.v v
        refine J_region ?_
        refine L_q (Q_fa0 rfl) rfl rfl rfl ?_
        refine L_q (Q_ld 0 rfl rfl rfl rfl) rfl rfl rfl ?_
        refine L_q ((Q_eql rfl rfl).as (v' := .bool true) (congrArg Value.bool (decide_eq_true c1))) rfl rfl rfl ?_
        refine L_q (Q_assign rfl) rfl rfl rfl ?_
        refine JL_nil ?_
        refine seqQ_normal ?_
        refine J_condT rfl ?_
        refine J.ent (Ent.mk fun _ _ h => (h.lay_nil tS true : Sat _ _ (slc tS true SV.nil [] :: _))) ?_
        refine J_drawH [9,10] [0, 1, 2, 3, 4, 5, 7, 8, 9, 10, 11, 14] (.quiet 0 (.quiet 1 (.quiet 2 (.quiet 3 (.quiet 4 (.quiet 5 (.quiet 7 (.quiet 8 (.quiet 9 (.quiet 10 (.quiet 11 (.loud 6 (.loud 12 (.loud 13 (.quiet 14 (.loud 15 .done)))))))))))))))) Try.mixed (by kernel_rfl) (by kernel_rfl) (by repeat (first | exact retQ_noP | refine seqQ_noP ?_ | refine blockQ_noP ?_ | refine loopQ_noP ?_ | refine scopeQ_noP ?_ | (intro _ _ _ h; cases h.1))) ?_
        refine S_q (Ent.re [9,10] rfl) rfl (Q_move rfl) rfl rfl rfl ?_
        refine S_q (Ent.re [9,10] rfl) rfl (Q_sub rfl rfl (by first | exact IntWalk.i64_in _ (by omega) | exact IntWalk.u8_in _ (by omega) | exact IntWalk.u32_in _ (by omega) | exact IntWalk.u64_in _ (by omega) | rfl)) rfl rfl rfl ?_
        refine S_q (Ent.re [9,10] rfl) rfl (Q_move rfl) rfl rfl rfl ?_
        refine S_q (Ent.re [9,10] rfl) rfl (Q_sub rfl rfl (by first | exact IntWalk.i64_in _ (by omega) | exact IntWalk.u8_in _ (by omega) | exact IntWalk.u32_in _ (by omega) | exact IntWalk.u64_in _ (by omega) | rfl)) rfl rfl rfl ?_
        refine S_q (Ent.re [9,10] rfl) rfl (Q_ia (sz := 1) (1 - me) rfl rfl (by omega) hot (show 0 + (1 - me) * 1 = 1 - me by omega)) rfl rfl rfl ?_
        refine S_q (Ent.re [9,10] rfl) rfl (Q_ld 0 rfl rfl rfl gW2) rfl rfl rfl ?_
        refine S_q (Ent.re [9,10] rfl) rfl (Q_move rfl) rfl rfl rfl ?_
        refine S_q (Ent.re [9,10] rfl) rfl (Q_move rfl) rfl rfl rfl ?_
        refine S_q (Ent.re [9,10] rfl) rfl (Q_ixAt 1 me rfl rfl rfl rfl hpl rfl) rfl rfl rfl ?_
        refine S_q (Ent.re [9,10] rfl) rfl (Q_ldEAt 1 me 0 (v := .pointer (some ⟨a.p, 0, none⟩)) rfl rfl rfl rfl hpl (by decide) (by rw [gp]; rfl)) rfl rfl rfl ?_
        refine S_q (Ent.re [9,10] rfl) rfl (Q_move rfl) rfl rfl rfl ?_
        refine S_o rfl rfl rfl rfl (O_app (τ := tS) 0 rfl (fun w h => h.rd 7 rfl) rfl rfl rfl rfl (by simp only [List.length_nil]; omega) (by decide) (fun S1 => ⟨_, fun _ => ⟨Ent.reN [9,10] rfl, Ent.refl _⟩, ?_⟩))
        refine JS.norm ?_
        refine S_o rfl rfl rfl rfl (O_call [2] [0,1,3,4,5,6,7,8,9,10,11,12] hp rfl rfl ?_)
        (rintro _ _ ⟨O, rfl, rfl⟩; refine ⟨_, fun _ => ⟨Ent.reN [10,11] rfl, Ent.refl _⟩, ?_⟩)
        refine JS.norm ?_
        refine S_o rfl rfl rfl rfl (O_app (τ := tS) 2 rfl (fun w h => h.rd 1 rfl) rfl rfl rfl rfl (by simp only [List.nil_append]; omega) (by decide) (fun S2 => ⟨_, fun _ => ⟨Ent.reN [10,11] rfl, Ent.refl _⟩, ?_⟩))
        refine JS.norm ?_
        refine S_q (Ent.re [10,11] rfl) rfl (Q_ia (sz := 1) (1 - me) rfl rfl (by omega) hot (show 0 + (1 - me) * 1 = 1 - me by omega)) rfl rfl rfl ?_
        refine S_s rfl rfl rfl (O_st1 10 rfl rfl rfl rfl rfl (cs' := pr me a.Sw.v S2.v) ⟨[], free_no (by kernel_rfl), ?_⟩)
        refine JS.norm ?_
        refine S_nil ?_
        refine blockQ_normal ?_
        exact ⟨rfl, { a with st := pollS a.st (k : Int) }, { b with wy := b.wy ++ out, Sw := S2 }, ⟨hB2.ea, hB2.eb, hB2.wa, hB2.wb⟩, rfl, ⟨rfl, rfl, rfl, rfl, rfl, rfl, rfl, rfl, trivial⟩, Ent.re [0, 4, 5, 6, 7, 2, 9, 10, 11, 12, 13] rfl⟩
      refine J_region ?_
      refine L_q (Q_fa0 rfl) rfl rfl rfl ?_
      refine L_q (Q_ld 0 rfl rfl rfl rfl) rfl rfl rfl ?_
      refine L_q ((Q_eql rfl rfl).as (v' := .bool false) (congrArg Value.bool (decide_eq_false c1))) rfl rfl rfl ?_
      refine L_q (Q_assign rfl) rfl rfl rfl ?_
      refine JL_nil ?_
      refine seqQ_normal ?_
      refine J_condF rfl ?_
      refine J_seq ?_
      by_cases cn : a.wy.length = 0
      · skip
        refine J_region ?_
        refine L_q (Q_move rfl) rfl rfl rfl ?_
        refine L_q ((Q_eql rfl rfl).as (v' := .bool true) (congrArg Value.bool (decide_eq_true (by omega)))) rfl rfl rfl ?_
        refine L_q (Q_assign rfl) rfl rfl rfl ?_
        refine JL_nil ?_
        refine seqQ_normal ?_
        refine J_condT rfl ?_
        refine J_skip ?_
        refine blockQ_normal ?_
        exact ⟨rfl, a, b, hB.next, rfl, ⟨rfl, rfl, rfl, rfl, rfl, rfl, rfl, rfl, trivial⟩, Ent.re [1, 2, 3, 4, 5, 6, 7, 8, 9, 10, 11] rfl⟩
      refine J_region ?_
      refine L_q (Q_move rfl) rfl rfl rfl ?_
      refine L_q ((Q_eql rfl rfl).as (v' := .bool false) (congrArg Value.bool (decide_eq_false (by omega)))) rfl rfl rfl ?_
      refine L_q (Q_assign rfl) rfl rfl rfl ?_
      refine JL_nil ?_
      refine seqQ_normal ?_
      refine J_condF rfl ?_
      refine J_seq ?_
      have hat0 : at0 < a.wy.length := hat (by omega)
      have hFr := hB.ea.fr a.wy[at0] (List.getElem_mem hat0)
      have htk := ptake_ok E a.p a.st k a.wy[at0] hB.ea.v (by omega) hFr.len
      obtain ⟨te, tE⟩ := hB.ea.take hFr (by omega)
      rw [te] at htk
      have hB2 : Both (k + 1) { a with st := takeS a.st a.wy[at0] } b := ⟨tE, hB.eb.mono (by omega), by show a.wy.length ≤ _; omega, by omega⟩
      generalize hf : a.wy[at0] = f at *
      by_cases c2 : l[k].kind = 2
      · skip
        refine J_region ?_
        refine L_q (Q_fa0 rfl) rfl rfl rfl ?_
        refine L_q (Q_ld 0 rfl rfl rfl rfl) rfl rfl rfl ?_
        refine L_q ((Q_eql rfl rfl).as (v' := .bool true) (congrArg Value.bool (decide_eq_true c2))) rfl rfl rfl ?_
        refine L_q (Q_move rfl) rfl rfl rfl ?_
        refine L_n rfl rfl rfl ?_
        refine L_n rfl rfl rfl ?_
        refine L_n rfl rfl rfl ?_
        refine L_q (Q_pickT rfl rfl) rfl rfl rfl ?_
        refine L_q (Q_assign rfl) rfl rfl rfl ?_
        refine JL_nil ?_
        refine seqQ_normal ?_
        refine J_condT rfl ?_
        refine J_seq ?_
        refine J_drawH [9,8,3] [0, 1, 2, 3, 4, 5, 6, 7, 8, 9, 11] (.quiet 0 (.quiet 1 (.quiet 2 (.quiet 3 (.quiet 4 (.quiet 5 (.quiet 6 (.quiet 7 (.quiet 8 (.quiet 9 (.loud 10 (.quiet 11 .done)))))))))))) Try.mixed (by kernel_rfl) (by kernel_rfl) (by repeat (first | exact retQ_noP | refine seqQ_noP ?_ | refine blockQ_noP ?_ | refine loopQ_noP ?_ | refine scopeQ_noP ?_ | (intro _ _ _ h; cases h.1))) ?_
        refine S_q (Ent.re [9,8,3] rfl) rfl (Q_move rfl) rfl rfl rfl ?_
        refine S_q (Ent.re [9,8,3] rfl) rfl (Q_move rfl) rfl rfl rfl ?_
        refine S_q (Ent.re [9,8,3] rfl) rfl (Q_ixAt 0 me rfl rfl rfl rfl hpl rfl) rfl rfl rfl ?_
        refine S_q (Ent.re [9,8,3] rfl) rfl (Q_ldEAt 0 me 0 (v := .pointer (some ⟨a.p, 0, none⟩)) rfl rfl rfl rfl hpl (by decide) (by rw [gp]; rfl)) rfl rfl rfl ?_
        refine S_q (Ent.re [9,8,3] rfl) rfl (Q_move rfl) rfl rfl rfl ?_
        refine S_q (Ent.re [9,8,3] rfl) rfl (Q_ia (sz := 1) me rfl rfl rfl hme (show 0 + me * 1 = me by omega)) rfl rfl rfl ?_
        refine S_q (Ent.re [9,8,3] rfl) rfl (Q_ld 1 rfl rfl rfl gW) rfl rfl rfl ?_
        refine S_q (Ent.re [9,8,3] rfl) rfl (Q_move rfl) rfl rfl rfl ?_
        refine S_q (Ent.re [9,8,3] rfl) rfl (Q_ixAt 2 at0 rfl rfl rfl rfl hat0 rfl) rfl rfl rfl ?_
        refine S_q (Ent.re [9,8,3] rfl) rfl (Q_ldEAt 2 at0 0 (v := str f) rfl rfl rfl rfl hat0 (by decide) (by rw [hf]; rfl)) rfl rfl rfl ?_
        refine S_o rfl rfl rfl rfl (O_call [1] [0,2,3,4,5,6,7,8,9,10,11] htk rfl rfl ?_)
        (rintro _ _ ⟨rfl, rfl⟩; refine ⟨_, fun _ => ⟨Ent.reN [9,8,3] rfl, Ent.refl _⟩, ?_⟩)
        refine JS.norm ?_
        refine S_q (Ent.re [9,8,3] rfl) rfl ((Q_neq rfl rfl).as (v' := .bool false) rfl) rfl rfl rfl ?_
        refine S_nil ?_
        refine seqQ_normal ?_
        refine J_condF rfl ?_
        refine J_skip ?_
        refine blockQ_normal ?_
        exact ⟨rfl, { a with st := takeS a.st f }, b, ⟨hB2.ea, hB2.eb, hB2.wa, hB2.wb⟩, rfl, ⟨rfl, rfl, rfl, rfl, rfl, rfl, rfl, rfl, trivial⟩, Ent.re [0, 2, 3, 4, 5, 6, 7, 8, 9, 10, 11] rfl⟩
      by_cases c3 : l[k].kind = 3
      · skip
        refine J_region ?_
        refine L_q (Q_fa0 rfl) rfl rfl rfl ?_
        refine L_q (Q_ld 0 rfl rfl rfl rfl) rfl rfl rfl ?_
        refine L_q ((Q_eql rfl rfl).as (v' := .bool false) (congrArg Value.bool (decide_eq_false c2))) rfl rfl rfl ?_
        refine L_q (Q_move rfl) rfl rfl rfl ?_
        refine L_q (Q_fa0 rfl) rfl rfl rfl ?_
        refine L_q (Q_ld 0 rfl rfl rfl rfl) rfl rfl rfl ?_
        refine L_q ((Q_eql rfl rfl).as (v' := .bool true) (congrArg Value.bool (decide_eq_true c3))) rfl rfl rfl ?_
        refine L_q (Q_pickF rfl rfl) rfl rfl rfl ?_
        refine L_q (Q_assign rfl) rfl rfl rfl ?_
        refine JL_nil ?_
        refine seqQ_normal ?_
        refine J_condT rfl ?_
        refine J_seq ?_
        refine J_drawH [9,8,3] [0, 1, 2, 3, 4, 5, 6, 7, 8, 9, 11] (.quiet 0 (.quiet 1 (.quiet 2 (.quiet 3 (.quiet 4 (.quiet 5 (.quiet 6 (.quiet 7 (.quiet 8 (.quiet 9 (.loud 10 (.quiet 11 .done)))))))))))) Try.mixed (by kernel_rfl) (by kernel_rfl) (by repeat (first | exact retQ_noP | refine seqQ_noP ?_ | refine blockQ_noP ?_ | refine loopQ_noP ?_ | refine scopeQ_noP ?_ | (intro _ _ _ h; cases h.1))) ?_
        refine S_q (Ent.re [9,8,3] rfl) rfl (Q_move rfl) rfl rfl rfl ?_
        refine S_q (Ent.re [9,8,3] rfl) rfl (Q_move rfl) rfl rfl rfl ?_
        refine S_q (Ent.re [9,8,3] rfl) rfl (Q_ixAt 0 me rfl rfl rfl rfl hpl rfl) rfl rfl rfl ?_
        refine S_q (Ent.re [9,8,3] rfl) rfl (Q_ldEAt 0 me 0 (v := .pointer (some ⟨a.p, 0, none⟩)) rfl rfl rfl rfl hpl (by decide) (by rw [gp]; rfl)) rfl rfl rfl ?_
        refine S_q (Ent.re [9,8,3] rfl) rfl (Q_move rfl) rfl rfl rfl ?_
        refine S_q (Ent.re [9,8,3] rfl) rfl (Q_ia (sz := 1) me rfl rfl rfl hme (show 0 + me * 1 = me by omega)) rfl rfl rfl ?_
        refine S_q (Ent.re [9,8,3] rfl) rfl (Q_ld 1 rfl rfl rfl gW) rfl rfl rfl ?_
        refine S_q (Ent.re [9,8,3] rfl) rfl (Q_move rfl) rfl rfl rfl ?_
        refine S_q (Ent.re [9,8,3] rfl) rfl (Q_ixAt 2 at0 rfl rfl rfl rfl hat0 rfl) rfl rfl rfl ?_
        refine S_q (Ent.re [9,8,3] rfl) rfl (Q_ldEAt 2 at0 0 (v := str f) rfl rfl rfl rfl hat0 (by decide) (by rw [hf]; rfl)) rfl rfl rfl ?_
        refine S_o rfl rfl rfl rfl (O_call [1] [0,2,3,4,5,6,7,8,9,10,11] htk rfl rfl ?_)
        (rintro _ _ ⟨rfl, rfl⟩; refine ⟨_, fun _ => ⟨Ent.reN [9,8,3] rfl, Ent.refl _⟩, ?_⟩)
        refine JS.norm ?_
        refine S_q (Ent.re [9,8,3] rfl) rfl ((Q_neq rfl rfl).as (v' := .bool false) rfl) rfl rfl rfl ?_
        refine S_nil ?_
        refine seqQ_normal ?_
        refine J_condF rfl ?_
        refine J_skip ?_
        refine blockQ_normal ?_
        exact ⟨rfl, { a with st := takeS a.st f }, b, ⟨hB2.ea, hB2.eb, hB2.wa, hB2.wb⟩, rfl, ⟨rfl, rfl, rfl, rfl, rfl, rfl, rfl, rfl, trivial⟩, Ent.re [0, 2, 3, 4, 5, 6, 7, 8, 9, 10, 11] rfl⟩
      · skip
        refine J_region ?_
        refine L_q (Q_fa0 rfl) rfl rfl rfl ?_
        refine L_q (Q_ld 0 rfl rfl rfl rfl) rfl rfl rfl ?_
        refine L_q ((Q_eql rfl rfl).as (v' := .bool false) (congrArg Value.bool (decide_eq_false c2))) rfl rfl rfl ?_
        refine L_q (Q_move rfl) rfl rfl rfl ?_
        refine L_q (Q_fa0 rfl) rfl rfl rfl ?_
        refine L_q (Q_ld 0 rfl rfl rfl rfl) rfl rfl rfl ?_
        refine L_q ((Q_eql rfl rfl).as (v' := .bool false) (congrArg Value.bool (decide_eq_false c3))) rfl rfl rfl ?_
        refine L_q (Q_pickF rfl rfl) rfl rfl rfl ?_
        refine L_q (Q_assign rfl) rfl rfl rfl ?_
        refine JL_nil ?_
        refine seqQ_normal ?_
        refine J_condF rfl ?_
        refine J_skip ?_
        refine blockQ_normal ?_
        exact ⟨rfl, a, b, hB.next, rfl, ⟨rfl, rfl, rfl, rfl, rfl, rfl, rfl, rfl, trivial⟩, Ent.re [1, 2, 3, 4, 5, 6, 7, 8, 9, 10, 11] rfl⟩
    rintro _ ρ' L' ⟨rfl, a2, b2, hB2, hwl, hsub, hent⟩
    refine seqQ_normal ?_
    refine J.sub hsub ?_
    refine J.ent hent ?_
    clear hsub hent
    dsimp only [chL]
    refine J_seq ?_
    refine J_seq ?_
    refine J.cut0 (fun e ρ' L' => e = .normal ∧ ∃ a3 b3 : En, Both (k + 1) a3 b3 ∧ envSub [(1, T.v), (6, Ev.v), (7, .pointer (some ⟨b7, 0, none⟩)), (8, .pointer (some ⟨b8, 0, none⟩)), (9, .int .i64 (k : Int)), (10, .int .i64 (me : Int))] ρ' ∧ Ent L' (chL b7 b8 Ev T l F me a3 b3)) ?_ ?_
    · by_cases cn : a.wy.length = 0
      · skip
        refine J_region ?_
        refine L_q (Q_move rfl) rfl rfl rfl ?_
        refine L_q ((Q_gtr rfl rfl).as (v' := .bool false) (congrArg Value.bool (decide_eq_false (by omega)))) rfl rfl rfl ?_
        refine L_q (Q_move rfl) rfl rfl rfl ?_
        refine L_n rfl rfl rfl ?_
        refine L_n rfl rfl rfl ?_
        refine L_n rfl rfl rfl ?_
        refine L_n rfl rfl rfl ?_
        refine L_n rfl rfl rfl ?_
        refine L_n rfl rfl rfl ?_
        refine L_n rfl rfl rfl ?_
        refine L_n rfl rfl rfl ?_
        refine L_n rfl rfl rfl ?_
        refine L_n rfl rfl rfl ?_
        refine L_n rfl rfl rfl ?_
        refine L_n rfl rfl rfl ?_
        refine L_n rfl rfl rfl ?_
        refine L_n rfl rfl rfl ?_
        refine L_q (Q_pickF rfl rfl) rfl rfl rfl ?_
        refine JL_nil ?_
        refine seqQ_normal ?_
        refine J_condF rfl ?_
        refine J_skip ?_
        exact ⟨rfl, a2, b2, hB2, ⟨rfl, rfl, rfl, rfl, rfl, rfl, trivial⟩, Ent.refl _⟩
      have hat0 : at0 < a2.wy.length := by rw [hwl]; exact hat (by omega)
      by_cases c34 : l[k].kind = 3 ∨ l[k].kind = 4
      · have hwa2 := hB2.wa
        have hB3 : Both (k + 1) { a2 with wy := a2.wy.take at0 ++ a2.wy.drop (at0 + 1) } b2 := ⟨hB2.ea.way fun f hf => .inl (cut_wy _ _ f hf), hB2.eb, by simp only [List.length_append, List.length_take, List.length_drop]; omega, hB2.wb⟩
        have gW3 := pr_me hme a2.Sw.v b2.Sw.v
        have hset := fun v => pr_setMe hme a2.Sw.v b2.Sw.v v
        by_cases c3 : l[k].kind = 3
        · skip
          refine J_region ?_
          refine L_q (Q_move rfl) rfl rfl rfl ?_
          refine L_q ((Q_gtr rfl rfl).as (v' := .bool true) (congrArg Value.bool (decide_eq_true (by omega)))) rfl rfl rfl ?_
          refine L_q (Q_move rfl) rfl rfl rfl ?_
          refine L_q (Q_move rfl) rfl rfl rfl ?_
          refine L_q (Q_move rfl) rfl rfl rfl ?_
          refine L_q (Q_ixAt 9 k rfl rfl rfl rfl hlt rfl) rfl rfl rfl ?_
          refine L_q (Q_pfa rfl) rfl rfl rfl ?_
          refine L_q (Q_ldEAt 9 k 0 (v := .int .i64 l[k].kind) rfl rfl rfl rfl hlt (by decide) rfl) rfl rfl rfl ?_
          refine L_q ((Q_eql rfl rfl).as (v' := .bool true) (congrArg Value.bool (decide_eq_true c3))) rfl rfl rfl ?_
          refine L_q (Q_move rfl) rfl rfl rfl ?_
          refine L_n rfl rfl rfl ?_
          refine L_n rfl rfl rfl ?_
          refine L_n rfl rfl rfl ?_
          refine L_n rfl rfl rfl ?_
          refine L_n rfl rfl rfl ?_
          refine L_n rfl rfl rfl ?_
          refine L_q (Q_pickT rfl rfl) rfl rfl rfl ?_
          refine L_q (Q_pickT rfl rfl) rfl rfl rfl ?_
          refine JL_nil ?_
          refine seqQ_normal ?_
          refine J_condT rfl ?_
          refine J.ent (Ent.mk fun _ _ h => (h.lay_nil tS true : Sat _ _ (slc tS true SV.nil [] :: _))) ?_
          refine J_drawH [8,3] [0, 1, 2, 3, 4, 5, 7, 8, 9, 10, 11, 12, 14] (.quiet 0 (.quiet 1 (.quiet 2 (.quiet 3 (.quiet 4 (.quiet 5 (.quiet 7 (.quiet 8 (.quiet 9 (.quiet 10 (.quiet 11 (.quiet 12 (.loud 6 (.loud 13 (.quiet 14 (.loud 15 .done)))))))))))))))) Try.mixed (by kernel_rfl) (by kernel_rfl) (by repeat (first | exact retQ_noP | refine seqQ_noP ?_ | refine blockQ_noP ?_ | refine loopQ_noP ?_ | refine scopeQ_noP ?_ | (intro _ _ _ h; cases h.1))) ?_
          refine S_q (Ent.re [8,3] rfl) rfl (Q_move rfl) rfl rfl rfl ?_
          refine S_q (Ent.re [8,3] rfl) rfl (Q_move rfl) rfl rfl rfl ?_
          refine S_q (Ent.re [8,3] rfl) rfl (Q_ia (sz := 1) me rfl rfl rfl hme (show 0 + me * 1 = me by omega)) rfl rfl rfl ?_
          refine S_q (Ent.re [8,3] rfl) rfl (Q_ld 0 rfl rfl rfl gW3) rfl rfl rfl ?_
          refine S_q (Ent.re [8,3] rfl) rfl (Q_move rfl) rfl rfl rfl ?_
          refine S_q (Ent.re [8,3] rfl) rfl (Q_slH (τ := tS) at0 (fun w h => h.rd 1 rfl) rfl rfl rfl (Nat.le_of_lt hat0) rfl) rfl rfl rfl ?_
          refine S_q (Ent.re [8,3] rfl) rfl (Q_move rfl) rfl rfl rfl ?_
          refine S_q (Ent.re [8,3] rfl) rfl (Q_ia (sz := 1) me rfl rfl rfl hme (show 0 + me * 1 = me by omega)) rfl rfl rfl ?_
          refine S_q (Ent.re [8,3] rfl) rfl (Q_ld 0 rfl rfl rfl gW3) rfl rfl rfl ?_
          refine S_q (Ent.re [8,3] rfl) rfl (Q_move rfl) rfl rfl rfl ?_
          refine S_q (Ent.re [8,3] rfl) rfl (Q_add rfl rfl (by first | exact IntWalk.i64_in _ (by omega) | exact IntWalk.u8_in _ (by omega) | exact IntWalk.u32_in _ (by omega) | exact IntWalk.u64_in _ (by omega) | rfl)) rfl rfl rfl ?_
          refine S_q (Ent.re [8,3] rfl) rfl (Q_slL (τ := tS) (at0 + 1) (fun w h => h.rd 1 rfl) rfl rfl rfl hat0 rfl) rfl rfl rfl ?_
          refine S_o rfl rfl rfl rfl (O_app (τ := tS) 0 rfl (fun w h => (h.rd 3 rfl).begin at0 (Nat.le_of_lt hat0)) rfl rfl rfl rfl (by simp only [List.length_nil, List.length_take]; omega) (by decide) (fun S1 => ⟨_, fun _ => ⟨Ent.reN [8,3] rfl, Ent.refl _⟩, ?_⟩))
          refine JS.norm ?_
          refine S_o rfl rfl rfl rfl (O_app (τ := tS) 0 rfl (fun w h => (h.rd 3 rfl).sub (at0 + 1) a2.wy.length hat0 (Nat.le_refl _)) rfl rfl rfl rfl (by simp only [List.nil_append, List.length_take, List.length_drop]; omega) (by decide) (fun S2 => ⟨_, fun _ => ⟨Ent.reN [8,3] rfl, Ent.refl _⟩, ?_⟩))
          refine JS.norm ?_
          refine S_q (Ent.re [8,3] rfl) rfl (Q_ia (sz := 1) me rfl rfl rfl hme (show 0 + me * 1 = me by omega)) rfl rfl rfl ?_
          refine S_s rfl rfl rfl (O_st1 8 rfl rfl rfl rfl rfl (cs' := pr me S2.v b2.Sw.v) ⟨[], free_no (by kernel_rfl), ?_⟩)
          refine JS.norm ?_
          refine S_nil ?_
          exact ⟨rfl, { a2 with wy := a2.wy.take at0 ++ a2.wy.drop (at0 + 1), Sw := S2 }, b2, ⟨hB3.ea, hB3.eb, hB3.wa, hB3.wb⟩, ⟨rfl, rfl, rfl, rfl, rfl, rfl, trivial⟩, by rw [List.take_length]; exact Ent.re [1, 2, 0, 4, 5, 6, 7, 8, 9, 10, 11] rfl⟩
        · have c4 := c34.resolve_left c3
          refine J_region ?_
          refine L_q (Q_move rfl) rfl rfl rfl ?_
          refine L_q ((Q_gtr rfl rfl).as (v' := .bool true) (congrArg Value.bool (decide_eq_true (by omega)))) rfl rfl rfl ?_
          refine L_q (Q_move rfl) rfl rfl rfl ?_
          refine L_q (Q_move rfl) rfl rfl rfl ?_
          refine L_q (Q_move rfl) rfl rfl rfl ?_
          refine L_q (Q_ixAt 9 k rfl rfl rfl rfl hlt rfl) rfl rfl rfl ?_
          refine L_q (Q_pfa rfl) rfl rfl rfl ?_
          refine L_q (Q_ldEAt 9 k 0 (v := .int .i64 l[k].kind) rfl rfl rfl rfl hlt (by decide) rfl) rfl rfl rfl ?_
          refine L_q ((Q_eql rfl rfl).as (v' := .bool false) (congrArg Value.bool (decide_eq_false c3))) rfl rfl rfl ?_
          refine L_q (Q_move rfl) rfl rfl rfl ?_
          refine L_q (Q_move rfl) rfl rfl rfl ?_
          refine L_q (Q_move rfl) rfl rfl rfl ?_
          refine L_q (Q_ixAt 9 k rfl rfl rfl rfl hlt rfl) rfl rfl rfl ?_
          refine L_q (Q_pfa rfl) rfl rfl rfl ?_
          refine L_q (Q_ldEAt 9 k 0 (v := .int .i64 l[k].kind) rfl rfl rfl rfl hlt (by decide) rfl) rfl rfl rfl ?_
          refine L_q ((Q_eql rfl rfl).as (v' := .bool true) (congrArg Value.bool (decide_eq_true c4))) rfl rfl rfl ?_
          refine L_q (Q_pickF rfl rfl) rfl rfl rfl ?_
          refine L_q (Q_pickT rfl rfl) rfl rfl rfl ?_
          refine JL_nil ?_
          refine seqQ_normal ?_
          refine J_condT rfl ?_
          refine J.ent (Ent.mk fun _ _ h => (h.lay_nil tS true : Sat _ _ (slc tS true SV.nil [] :: _))) ?_
          refine J_drawH [8,3] [0, 1, 2, 3, 4, 5, 7, 8, 9, 10, 11, 12, 14] (.quiet 0 (.quiet 1 (.quiet 2 (.quiet 3 (.quiet 4 (.quiet 5 (.quiet 7 (.quiet 8 (.quiet 9 (.quiet 10 (.quiet 11 (.quiet 12 (.loud 6 (.loud 13 (.quiet 14 (.loud 15 .done)))))))))))))))) Try.mixed (by kernel_rfl) (by kernel_rfl) (by repeat (first | exact retQ_noP | refine seqQ_noP ?_ | refine blockQ_noP ?_ | refine loopQ_noP ?_ | refine scopeQ_noP ?_ | (intro _ _ _ h; cases h.1))) ?_
          refine S_q (Ent.re [8,3] rfl) rfl (Q_move rfl) rfl rfl rfl ?_
          refine S_q (Ent.re [8,3] rfl) rfl (Q_move rfl) rfl rfl rfl ?_
          refine S_q (Ent.re [8,3] rfl) rfl (Q_ia (sz := 1) me rfl rfl rfl hme (show 0 + me * 1 = me by omega)) rfl rfl rfl ?_
          refine S_q (Ent.re [8,3] rfl) rfl (Q_ld 0 rfl rfl rfl gW3) rfl rfl rfl ?_
          refine S_q (Ent.re [8,3] rfl) rfl (Q_move rfl) rfl rfl rfl ?_
          refine S_q (Ent.re [8,3] rfl) rfl (Q_slH (τ := tS) at0 (fun w h => h.rd 1 rfl) rfl rfl rfl (Nat.le_of_lt hat0) rfl) rfl rfl rfl ?_
          refine S_q (Ent.re [8,3] rfl) rfl (Q_move rfl) rfl rfl rfl ?_
          refine S_q (Ent.re [8,3] rfl) rfl (Q_ia (sz := 1) me rfl rfl rfl hme (show 0 + me * 1 = me by omega)) rfl rfl rfl ?_
          refine S_q (Ent.re [8,3] rfl) rfl (Q_ld 0 rfl rfl rfl gW3) rfl rfl rfl ?_
          refine S_q (Ent.re [8,3] rfl) rfl (Q_move rfl) rfl rfl rfl ?_
          refine S_q (Ent.re [8,3] rfl) rfl (Q_add rfl rfl (by first | exact IntWalk.i64_in _ (by omega) | exact IntWalk.u8_in _ (by omega) | exact IntWalk.u32_in _ (by omega) | exact IntWalk.u64_in _ (by omega) | rfl)) rfl rfl rfl ?_
          refine S_q (Ent.re [8,3] rfl) rfl (Q_slL (τ := tS) (at0 + 1) (fun w h => h.rd 1 rfl) rfl rfl rfl hat0 rfl) rfl rfl rfl ?_
          refine S_o rfl rfl rfl rfl (O_app (τ := tS) 0 rfl (fun w h => (h.rd 3 rfl).begin at0 (Nat.le_of_lt hat0)) rfl rfl rfl rfl (by simp only [List.length_nil, List.length_take]; omega) (by decide) (fun S1 => ⟨_, fun _ => ⟨Ent.reN [8,3] rfl, Ent.refl _⟩, ?_⟩))
          refine JS.norm ?_
          refine S_o rfl rfl rfl rfl (O_app (τ := tS) 0 rfl (fun w h => (h.rd 3 rfl).sub (at0 + 1) a2.wy.length hat0 (Nat.le_refl _)) rfl rfl rfl rfl (by simp only [List.nil_append, List.length_take, List.length_drop]; omega) (by decide) (fun S2 => ⟨_, fun _ => ⟨Ent.reN [8,3] rfl, Ent.refl _⟩, ?_⟩))
          refine JS.norm ?_
          refine S_q (Ent.re [8,3] rfl) rfl (Q_ia (sz := 1) me rfl rfl rfl hme (show 0 + me * 1 = me by omega)) rfl rfl rfl ?_
          refine S_s rfl rfl rfl (O_st1 8 rfl rfl rfl rfl rfl (cs' := pr me S2.v b2.Sw.v) ⟨[], free_no (by kernel_rfl), ?_⟩)
          refine JS.norm ?_
          refine S_nil ?_
          exact ⟨rfl, { a2 with wy := a2.wy.take at0 ++ a2.wy.drop (at0 + 1), Sw := S2 }, b2, ⟨hB3.ea, hB3.eb, hB3.wa, hB3.wb⟩, ⟨rfl, rfl, rfl, rfl, rfl, rfl, trivial⟩, by rw [List.take_length]; exact Ent.re [1, 2, 0, 4, 5, 6, 7, 8, 9, 10, 11] rfl⟩
      · simp only [not_or] at c34
        refine J_region ?_
        refine L_q (Q_move rfl) rfl rfl rfl ?_
        refine L_q ((Q_gtr rfl rfl).as (v' := .bool true) (congrArg Value.bool (decide_eq_true (by omega)))) rfl rfl rfl ?_
        refine L_q (Q_move rfl) rfl rfl rfl ?_
        refine L_q (Q_move rfl) rfl rfl rfl ?_
        refine L_q (Q_move rfl) rfl rfl rfl ?_
        refine L_q (Q_ixAt 9 k rfl rfl rfl rfl hlt rfl) rfl rfl rfl ?_
        refine L_q (Q_pfa rfl) rfl rfl rfl ?_
        refine L_q (Q_ldEAt 9 k 0 (v := .int .i64 l[k].kind) rfl rfl rfl rfl hlt (by decide) rfl) rfl rfl rfl ?_
        refine L_q ((Q_eql rfl rfl).as (v' := .bool false) (congrArg Value.bool (decide_eq_false c34.1))) rfl rfl rfl ?_
        refine L_q (Q_move rfl) rfl rfl rfl ?_
        refine L_q (Q_move rfl) rfl rfl rfl ?_
        refine L_q (Q_move rfl) rfl rfl rfl ?_
        refine L_q (Q_ixAt 9 k rfl rfl rfl rfl hlt rfl) rfl rfl rfl ?_
        refine L_q (Q_pfa rfl) rfl rfl rfl ?_
        refine L_q (Q_ldEAt 9 k 0 (v := .int .i64 l[k].kind) rfl rfl rfl rfl hlt (by decide) rfl) rfl rfl rfl ?_
        refine L_q ((Q_eql rfl rfl).as (v' := .bool false) (congrArg Value.bool (decide_eq_false c34.2))) rfl rfl rfl ?_
        refine L_q (Q_pickF rfl rfl) rfl rfl rfl ?_
        refine L_q (Q_pickT rfl rfl) rfl rfl rfl ?_
        refine JL_nil ?_
        refine seqQ_normal ?_
        refine J_condF rfl ?_
        refine J_skip ?_
        exact ⟨rfl, a2, b2, hB2, ⟨rfl, rfl, rfl, rfl, rfl, rfl, trivial⟩, Ent.refl _⟩
    rintro _ ρ' L' ⟨rfl, a3, b3, hB3, hsub, hent⟩
    refine seqQ_normal ?_
    refine J.sub hsub ?_
    refine J.ent hent ?_
    clear hsub hent
    obtain ⟨y0, y1, hY, hent⟩ : ∃ y0 y1 : En, Both (k + 1) y0 y1 ∧ Ent (chL b7 b8 Ev T l F me a3 b3) (chL b7 b8 Ev T l F 0 y0 y1) := by
      have : me = 0 ∨ me = 1 := by omega
      rcases this with rfl | rfl
      · exact ⟨a3, b3, hB3, Ent.refl _⟩
      · exact ⟨b3, a3, hB3.swap, Ent.re [3, 4, 5, 0, 1, 2, 6, 7, 8, 9, 10] rfl⟩
    refine J.ent hent ?_
    refine J_seq ?_
    refine J_region ?_
    refine L_q (Q_assign rfl) rfl rfl rfl ?_
    refine JL_nil ?_
    refine seqQ_normal ?_
    refine J_block ?_
    refine J_loop (fun i : Nat => i ≤ 2) (fun i => [(1, T.v), (6, Ev.v), (7, .pointer (some ⟨b7, 0, none⟩)), (8, .pointer (some ⟨b8, 0, none⟩)), (9, .int .i64 (k : Int)), (14, .int .i64 (i : Int))]) (fun i => chL b7 b8 Ev T l F (ixO i) (upO i y0 y1) (upO i y1 y0)) (fun i => 2 - i) 0 (by decide) ⟨rfl, rfl, rfl, rfl, rfl, rfl, trivial⟩ (Ent.refl _) ?_
    intro i hi
    by_cases hi2 : i < 2
    · have hnx : Ent [pipeA (upO i y1 y0).p (upO i y1 y0).st, slc tS true (upO i y1 y0).Ss (upO i y1 y0).se, slc tS true (upO i y1 y0).Sw (upO i y1 y0).wy, pipeA (upO i y0 y1).p (upO i y0 y1).st, slc tS true (upO i y0 y1).Ss (upO i y0 y1).se, slc tS true (upO i y0 y1).Sw (upO i y0 y1).wy, cel b7 (pr i (upO i y0 y1).Ss.v (upO i y1 y0).Ss.v) 30, cel b8 (pr i (upO i y0 y1).Sw.v (upO i y1 y0).Sw.v) 30, slc tPt true Ev (pr i (upO i y0 y1).p (upO i y1 y0).p), slc tBr false T l, F] (chL b7 b8 Ev T l F (ixO (i + 1)) (upO (i + 1) y0 y1) (upO (i + 1) y1 y0)) := by
        have : i = 0 ∨ i = 1 := by omega
        rcases this with rfl | rfl
        · exact Ent.refl _
        · exact Ent.refl _
      have hix : ixO i = i := by
        have : i = 0 ∨ i = 1 := by omega
        rcases this with rfl | rfl <;> rfl
      have hBu : Both (k + 1) (upO i y0 y1) (upO i y1 y0) := by
        have : i = 0 ∨ i = 1 := by omega
        rcases this with rfl | rfl
        · exact hY
        · exact hY.swap
      rw [hix]
      generalize upO i y0 y1 = u at *
      generalize upO i y1 y0 = w at *
      dsimp only [chL]
      have hpl2 : i < (pr i u.p w.p).length := by rw [pr_len]; exact hi2
      have gp2 := pr_elt hi2 u.p w.p hpl2
      have g1 := pr_ot hi2 u.Ss.v w.Ss.v
      have g2 := pr_me hi2 u.Ss.v w.Ss.v
      have htd := ptold_ok E u.p u.st (k + 1) hBu.ea.v (by omega)
      have hop := popen_ok E u.p u.st
      have htold := hBu.ea.told
      have hbl := hBu.ea.bl
      have holn := hBu.ea.ol
      have hse := hBu.ea.v.sl
      have hsw := hBu.eb.v.sl
      rw [hBu.eb.sent] at hsw
      have htl : u.st.told.length ≤ w.se.length := by rw [htold, List.length_take]; omega
      have htt : w.se.take u.st.told.length = u.st.told := by
        rw [htold, List.length_take, Nat.min_eq_left hbl]
      refine J_seq ?_
      refine J_seq ?_
      refine J_region ?_
      refine L_q (Q_move rfl) rfl rfl rfl ?_
      refine L_q ((Q_lss rfl rfl).as (v' := .bool true) (congrArg Value.bool (decide_eq_true (by omega)))) rfl rfl rfl ?_
      refine JL_nil ?_
      refine seqQ_normal ?_
      refine J_condT rfl ?_
      refine J_skip ?_
      refine seqQ_normal ?_
      refine J_seq ?_
      refine J_block ?_
      refine J_seq ?_
      refine J_region ?_
      refine L_q (Q_move rfl) rfl rfl rfl ?_
      refine L_q (Q_move rfl) rfl rfl rfl ?_
      refine L_q (Q_ixAt 8 i rfl rfl rfl rfl hpl2 rfl) rfl rfl rfl ?_
      refine L_q (Q_ldEAt 8 i 0 (v := .pointer (some ⟨u.p, 0, none⟩)) rfl rfl rfl rfl hpl2 (by decide) (by rw [gp2]; rfl)) rfl rfl rfl ?_
      refine L_o rfl rfl rfl (O_call [0] [1,2,3,4,5,6,7,8,9,10] htd rfl rfl ?_)
      rintro _ _ ⟨U, rfl, rfl⟩
      refine JL.norm ?_
      refine L_q (Q_assign rfl) rfl rfl rfl ?_
      refine JL_nil ?_
      refine seqQ_normal ?_
      refine J_seq ?_
      have hg := rtexts_gen E (slc tS true U u.st.told) (slc tS true w.Ss w.se) U (w.Ss.sub tS.sz 0 u.st.told.length) u.st.told (w.se.take u.st.told.length) (fun _ _ h => h.rd 0 rfl) (fun _ _ h => (h.rd 1 rfl).begin _ htl) (by omega)
      rw [htt, decide_eq_true rfl] at hg
      refine J_drawH [1,7,5,2,9] [0, 1, 2, 3, 4, 5, 6, 7, 8, 9, 10, 11, 12, 13, 14, 15, 16, 18, 19, 20, 21, 22, 23, 24, 26, 27, 28, 29, 30, 31] (.quiet 0 (.quiet 1 (.quiet 2 (.quiet 3 (.quiet 4 (.quiet 5 (.quiet 6 (.quiet 7 (.quiet 8 (.quiet 9 (.quiet 10 (.quiet 11 (.quiet 12 (.quiet 13 (.quiet 14 (.quiet 15 (.quiet 16 (.loud 17 (.quiet 18 (.quiet 19 (.quiet 20 (.quiet 21 (.quiet 22 (.quiet 23 (.quiet 24 (.quiet 26 (.quiet 27 (.quiet 28 (.quiet 29 (.loud 25 (.quiet 30 (.quiet 31 .done)))))))))))))))))))))))))))))))) Try.mixed (by kernel_rfl) (by kernel_rfl) (by repeat (first | exact retQ_noP | refine seqQ_noP ?_ | refine blockQ_noP ?_ | refine loopQ_noP ?_ | refine scopeQ_noP ?_ | (intro _ _ _ h; cases h.1))) ?_
      refine S_q (Ent.re [1,7,5,2,9] rfl) rfl (Q_move rfl) rfl rfl rfl ?_
      refine S_q (Ent.re [1,7,5,2,9] rfl) rfl (Q_lenAt 0 rfl rfl) rfl rfl rfl ?_
      refine S_q (Ent.re [1,7,5,2,9] rfl) rfl (Q_move rfl) rfl rfl rfl ?_
      refine S_q (Ent.re [1,7,5,2,9] rfl) rfl (Q_sub rfl rfl (by first | exact IntWalk.i64_in _ (by omega) | exact IntWalk.u8_in _ (by omega) | exact IntWalk.u32_in _ (by omega) | exact IntWalk.u64_in _ (by omega) | rfl)) rfl rfl rfl ?_
      refine S_q (Ent.re [1,7,5,2,9] rfl) rfl (Q_ia (sz := 1) (1 - i) rfl rfl (by omega) (by omega) (show 0 + (1 - i) * 1 = 1 - i by omega)) rfl rfl rfl ?_
      refine S_q (Ent.re [1,7,5,2,9] rfl) rfl (Q_ld 1 rfl rfl rfl g1) rfl rfl rfl ?_
      refine S_q (Ent.re [1,7,5,2,9] rfl) rfl (Q_lenAt 2 rfl rfl) rfl rfl rfl ?_
      refine S_q (Ent.re [1,7,5,2,9] rfl) rfl ((Q_gtr rfl rfl).as (v' := .bool false) (congrArg Value.bool (decide_eq_false (by omega)))) rfl rfl rfl ?_
      refine S_q (Ent.re [1,7,5,2,9] rfl) rfl (Q_move rfl) rfl rfl rfl ?_
      refine S_q (Ent.re [1,7,5,2,9] rfl) rfl (Q_move rfl) rfl rfl rfl ?_
      refine S_q (Ent.re [1,7,5,2,9] rfl) rfl (Q_move rfl) rfl rfl rfl ?_
      refine S_q (Ent.re [1,7,5,2,9] rfl) rfl (Q_sub rfl rfl (by first | exact IntWalk.i64_in _ (by omega) | exact IntWalk.u8_in _ (by omega) | exact IntWalk.u32_in _ (by omega) | exact IntWalk.u64_in _ (by omega) | rfl)) rfl rfl rfl ?_
      refine S_q (Ent.re [1,7,5,2,9] rfl) rfl (Q_ia (sz := 1) (1 - i) rfl rfl (by omega) (by omega) (show 0 + (1 - i) * 1 = 1 - i by omega)) rfl rfl rfl ?_
      refine S_q (Ent.re [1,7,5,2,9] rfl) rfl (Q_ld 1 rfl rfl rfl g1) rfl rfl rfl ?_
      refine S_q (Ent.re [1,7,5,2,9] rfl) rfl (Q_move rfl) rfl rfl rfl ?_
      refine S_q (Ent.re [1,7,5,2,9] rfl) rfl (Q_lenAt 0 rfl rfl) rfl rfl rfl ?_
      refine S_q (Ent.re [1,7,5,2,9] rfl) rfl (Q_slH (τ := tS) u.st.told.length (fun w h => h.rd 2 rfl) rfl rfl rfl htl rfl) rfl rfl rfl ?_
      refine S_o rfl rfl rfl rfl (O_call [1,5] [0,2,3,4,6,7,8,9,10,11] hg rfl rfl ?_)
      (rintro _ _ ⟨rfl, rfl⟩; refine ⟨_, fun _ => ⟨Ent.reN [0,7,1,3,9] rfl, Ent.refl _⟩, ?_⟩)
      refine JS.norm ?_
      refine S_q (Ent.re [0,7,1,3,9] rfl) rfl ((Q_not rfl).as (v' := .bool false) rfl) rfl rfl rfl ?_
      refine S_q (Ent.re [0,7,1,3,9] rfl) rfl (Q_pickF rfl rfl) rfl rfl rfl ?_
      refine S_q (Ent.re [0,7,1,3,9] rfl) rfl (Q_move rfl) rfl rfl rfl ?_
      refine S_q (Ent.re [0,7,1,3,9] rfl) rfl (Q_move rfl) rfl rfl rfl ?_
      refine S_q (Ent.re [0,7,1,3,9] rfl) rfl (Q_move rfl) rfl rfl rfl ?_
      refine S_q (Ent.re [0,7,1,3,9] rfl) rfl (Q_ixAt 4 i rfl rfl rfl rfl hpl2 rfl) rfl rfl rfl ?_
      refine S_q (Ent.re [0,7,1,3,9] rfl) rfl (Q_ldEAt 4 i 0 (v := .pointer (some ⟨u.p, 0, none⟩)) rfl rfl rfl rfl hpl2 (by decide) (by rw [gp2]; rfl)) rfl rfl rfl ?_
      refine S_q (Ent.re [0,7,1,3,9] rfl) rfl (Q_move rfl) rfl rfl rfl ?_
      refine S_q (Ent.re [0,7,1,3,9] rfl) rfl (Q_ia (sz := 1) i rfl rfl rfl hi2 (show 0 + i * 1 = i by omega)) rfl rfl rfl ?_
      refine S_q (Ent.re [0,7,1,3,9] rfl) rfl (Q_ld 1 rfl rfl rfl g2) rfl rfl rfl ?_
      refine S_q (Ent.re [0,7,1,3,9] rfl) rfl (Q_lenAt 3 rfl rfl) rfl rfl rfl ?_
      refine S_o rfl rfl rfl rfl (O_call [2] [0,1,3,4,5,6,7,8,9,10,11] hop rfl rfl ?_)
      (rintro _ _ ⟨rfl, rfl⟩; refine ⟨_, fun _ => ⟨Ent.reN [1,7,2,3,9] rfl, Ent.refl _⟩, ?_⟩)
      refine JS.norm ?_
      refine S_q (Ent.re [1,7,2,3,9] rfl) rfl ((Q_gtr rfl rfl).as (v' := .bool false) (congrArg Value.bool (decide_eq_false (by omega)))) rfl rfl rfl ?_
      refine S_q (Ent.re [1,7,2,3,9] rfl) rfl (Q_pickF rfl rfl) rfl rfl rfl ?_
      refine S_nil ?_
      refine seqQ_normal ?_
      refine J_condF rfl ?_
      refine J_skip ?_
      refine blockQ_normal ?_
      refine seqQ_normal ?_
      refine J_region ?_
      refine L_q (Q_move rfl) rfl rfl rfl ?_
      refine L_q (Q_add rfl rfl (by first | exact IntWalk.i64_in _ (by omega) | exact IntWalk.u8_in _ (by omega) | exact IntWalk.u32_in _ (by omega) | exact IntWalk.u64_in _ (by omega) | rfl)) rfl rfl rfl ?_
      refine L_q (Q_assign rfl) rfl rfl rfl ?_
      refine JL_nil ?_
      exact loopQ_normal (i + 1) (by omega) (by omega) ⟨rfl, rfl, rfl, rfl, rfl, rfl, trivial⟩ ((Ent.re [5, 2, 6, 0, 3, 4, 7, 8, 9, 10, 11] rfl).trans hnx)
    · obtain rfl : i = 2 := by omega
      refine J_seq ?_
      refine J_seq ?_
      refine J_region ?_
      refine L_q (Q_move rfl) rfl rfl rfl ?_
      refine L_q ((Q_lss rfl rfl).as (v' := .bool false) rfl) rfl rfl rfl ?_
      refine JL_nil ?_
      refine seqQ_normal ?_
      refine J_condF rfl ?_
      refine J_exit ?_
      refine seqQ_exit ?_
      refine loopQ_exit ?_
      refine blockQ_hit ?_
      refine blockQ_normal ?_
      refine seqQ_normal ?_
      refine J_region ?_
      refine L_q (Q_move rfl) rfl rfl rfl ?_
      refine L_q (Q_add rfl rfl (by first | exact IntWalk.i64_in _ (by omega) | exact IntWalk.u8_in _ (by omega) | exact IntWalk.u32_in _ (by omega) | exact IntWalk.u64_in _ (by omega) | rfl)) rfl rfl rfl ?_
      refine L_q (Q_assign rfl) rfl rfl rfl ?_
      refine JL_nil ?_
      exact loopQ_normal (k + 1, y0, y1) ⟨hlt, hY⟩ (by simp only; omega) ⟨rfl, rfl, rfl, rfl, rfl, trivial⟩ (Ent.refl _)
  · refine J_exit ?_
    refine seqQ_exit ?_
    refine loopQ_exit ?_
    refine blockQ_hit ?_
    refine seqQ_normal ?_
    refine J_seq ?_
    refine J_region ?_
    refine L_o rfl rfl rfl (O_call [] [0,1,2,3,4,5,6,7,8,9,10] (awake_ok E) rfl rfl ?_)
    rintro _ _ ⟨rfl, rfl⟩
    refine JL.norm ?_
    refine L_q (Q_assign rfl) rfl rfl rfl ?_
    refine JL_nil ?_
    refine seqQ_normal ?_
    refine J_ret ?_
    exact retQ_ret _ [] (.cons (RV_tmp rfl) .nil) ⟨rfl, rfl⟩ (Ent.re [10] rfl)
end Go.Proofs
