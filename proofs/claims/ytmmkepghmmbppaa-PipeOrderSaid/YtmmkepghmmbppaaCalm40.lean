/- The law PipeCalm: its walk. -/
import Derived.Test.YtmmkepghmmbppaaForg40
set_option autoImplicit false
namespace Go.SL
theorem blockQ_mon {id : Nat} {Q Q' : Post} (h : ∀ e ρ L, Q e ρ L → Q' e ρ L) : ∀ e ρ L, blockQ id Q e ρ L → blockQ id Q' e ρ L := by
  intro e ρ L hb
  cases e with
  | exit j =>
    simp only [blockQ] at hb ⊢
    cases hj : Nat.beq j id <;> simp only [hj, cond_true, cond_false] at hb ⊢ <;> exact h _ _ _ hb
  | _ => exact h _ _ _ hb
theorem J.cutB {P : Program} {E : World} {n id : Nat} {c : Code} {Q : Post} {ρ : Env} {L : List HProp} (M : Post) (h : J P E n c (blockQ id M) ρ L) (hq : ∀ e ρ L, M e ρ L → Q e ρ L) : J P E n c (blockQ id Q) ρ L := h.mono (blockQ_mon hq)
end Go.SL
namespace Go.Proofs
open Go.SL
theorem PV.tight {st : Ps} {c d : Nat} (h : PV st c) (h1 : st.L.length ≤ d) (h2 : st.sent ≤ d) : PV st d := ⟨h.r1, h.r2, h.Ln, h1, h.tl, h.told, h.ol, h2, h.os, h.ot, h.hn⟩
def bdsL (l : List By) (x j : Nat) : List Bd := (List.range j).map fun i => ⟨((x + i : Nat) : Int), l.getD (x + i) [], true⟩
def frs (l : List By) (x j : Nat) : List By := (List.range j).map fun i => frm 0 (four (x + i)) (l.getD (x + i) [])
structure CA (R x j : Nat) (l : List By) (st : Ps) : Prop where
  room : st.room = R
  sent : st.sent = x + j
  op : st.op = bdsL l x j
  tm : st.tm = []
  L : st.L = []
  owe : st.owe = false
  v : PV st 100
structure CS (R x j : Nat) (st : Ps) : Prop where
  room : st.room = R
  sent : st.sent = x + j
  op : ∀ b ∈ st.op, b.seq < ((x + j : Nat) : Int)
  tm : ∀ e ∈ st.tm, e.1 < ((x + j : Nat) : Int)
  L : st.L = []
  owe : st.owe = false
  z : j = 0 → st.op = [] ∧ st.tm = []
  v : PV st 100
structure CB (l : List By) (x : Nat) (o : Bool) (st : Ps) : Prop where
  op : st.op = []
  tm : st.tm = []
  base : baseOf st.L = x
  lt : ∀ z ∈ st.L, z < (x : Int)
  Ll : st.L.length = x
  told : st.told = l.take x
  owe : st.owe = o
  sent : st.sent = 0
  v : PV st 100
theorem CA.new {R : Nat} (h1 : 1 ≤ R) (h2 : R ≤ 64) (l : List By) : CA R 0 0 l (new R) := ⟨rfl, rfl, rfl, rfl, rfl, rfl, (PV.new R h1 h2).mono (by omega)⟩
theorem CB.new {R : Nat} (h1 : 1 ≤ R) (h2 : R ≤ 64) (l : List By) : CB l 0 false (new R) := ⟨rfl, rfl, (baseOf_eq [] 0 (by simp) (by simp)).symm, by simp [Go.Proofs.new], rfl, rfl, rfl, rfl, (PV.new R h1 h2).mono (by omega)⟩
theorem bdsL_len (l : List By) (x j : Nat) : (bdsL l x j).length = j := by simp [bdsL]
theorem CA.le {R x j : Nat} {l : List By} {st : Ps} (h : CA R x j l st) : j ≤ R := by
  have := h.v.ol
  rw [h.op, bdsL_len, h.room] at this
  exact this
theorem CA.send {R x j : Nat} {l : List By} {st : Ps} (h : CA R x j l st) (hx : x + j < l.length) (hl : l.length ≤ 60) (ht : l[x + j].length ≤ 4000) (hj : j < R) : sendE st l[x + j] = 0 ∧ CA R x (j + 1) l (sendS st l[x + j]) := by
  have hol : st.op.length = j := by rw [h.op, bdsL_len]
  obtain ⟨e1, e2⟩ := send_0 (st := st) (s := l[x + j]) (by omega) (by rw [hol, h.room]; omega)
  have hv := h.v.send l[x + j]
  rw [e2] at hv ⊢
  refine ⟨e1, ⟨h.room, by simp only [h.sent]; omega, ?_, h.tm, h.L, h.owe, hv.tight (by simp only [h.L]; simp) (by simp only [h.sent]; omega)⟩⟩
  simp only [h.op, h.sent, bdsL, List.range_succ, List.map_append, List.map_cons, List.map_nil]
  rw [List.getD_eq_getElem?_getD, List.getElem?_eq_getElem hx]; rfl
theorem CA.full {R x j : Nat} {l : List By} {st : Ps} (h : CA R x j l st) {s : By} (ht : s.length ≤ 4000) (hj : ¬ j < R) : sendE st s = 7 ∧ sendS st s = st := by
  have hol : st.op.length = j := by rw [h.op, bdsL_len]
  exact send_7 (by omega) (by rw [hol, h.room]; omega)
theorem pollT_keys (room : Nat) (now : Int) (u : Int) : ∀ (l : List Bd) (tm : List Op3), (∀ b ∈ l, b.seq < u) → (∀ e ∈ tm, e.1 < u) → ∀ e ∈ pollT room now tm l, e.1 < u
  | [], tm, _, h => h
  | b :: l, tm, hl, h => by
    refine pollT_keys room now u l _ (fun x hx => hl x (by simp [hx])) ?_
    dsimp only
    split
    · intro e he
      unfold sentL at he
      split at he
      · rcases (insT_mem _ _ _ e).1 he with rfl | he
        · exact hl b (by simp)
        · exact h e he
      · exact h e he
    · exact h
theorem dueL_nil (now : Int) : dueL [] now = [] := by unfold dueL; split <;> rfl
theorem bds_seq {l : List By} {x j : Nat} {b : Bd} (h : b ∈ bdsL l x j) : b.seq < ((x + j : Nat) : Int) := by
  obtain ⟨i, hi, rfl⟩ := List.mem_map.1 h
  have := List.mem_range.1 hi
  simp only; omega
theorem CA.poll {R x j : Nat} {l : List By} {st : Ps} (h : CA R x j l st) (now : Int) : pollO st now = frs l x j ∧ CS R x j (pollS st now) := by
  have ho : outL (baseOf st.L) (dueO st.tm now) st.op = frs l x j := by
    have hb : baseOf st.L = 0 := by rw [h.L]; exact (baseOf_eq [] 0 (by simp) (by simp)).symm
    unfold outL
    rw [hb, h.op, List.filter_eq_self.2 (fun b hb => by obtain ⟨i, _, rfl⟩ := List.mem_map.1 hb; rfl), bdsL, List.map_map]
    rfl
  refine ⟨?_, ⟨h.room, h.sent, ?_, ?_, h.L, rfl, ?_, h.v.poll now⟩⟩
  · unfold pollO
    rw [ho, if_neg (by rw [h.owe]; simp)]
  · intro b hb
    obtain ⟨y, hy, rfl⟩ := List.mem_map.1 hb
    rw [h.op] at hy
    exact bds_seq (b := y) hy
  · refine pollT_keys _ _ _ _ _ (fun b hb => by rw [h.op] at hb; exact bds_seq hb) ?_
    rw [h.tm, dueL_nil]; simp
  · intro h0
    subst h0
    have e : st.op = [] := h.op
    simp only [pollS, e, h.tm, dueL_nil]
    exact ⟨rfl, rfl⟩
theorem CS.ack {R x j : Nat} {l : List By} {st : Ps} (h : CS R x j st) : CA R (x + j) 0 l (ackS st ((x + j : Nat) : Int)) := by
  refine ⟨h.room, h.sent, ?_, ?_, h.L, h.owe, h.v.ack _⟩
  · show ackO st.op _ = []
    exact List.filter_eq_nil_iff.2 fun b hb => by have := h.op b hb; simp only [decide_eq_true_eq]; omega
  · show ackL st.tm _ = []
    exact List.filter_eq_nil_iff.2 fun b hb => by have := h.tm b hb; simp only [decide_eq_true_eq]; omega
theorem CS.none {R x j : Nat} {l : List By} {st : Ps} (h : CS R x j st) (hj : j = 0) : CA R (x + j) 0 l st := by
  obtain ⟨h1, h2⟩ := h.z hj
  exact ⟨h.room, h.sent, h1, h2, h.L, h.owe, h.v⟩
theorem CB.take {l : List By} {x : Nat} {o : Bool} {st : Ps} (h : CB l x o st) (hx : x < l.length) (hl : l.length ≤ 60) (ht : l[x].length ≤ 4000) : takeE (frm 0 (four x) l[x]) = 0 ∧ CB l (x + 1) true (takeS st (frm 0 (four x) l[x])) := by
  obtain ⟨e1, e2⟩ := take_body (st := st) (readP_body 0 x l[x] (by omega) (by decide) (by omega))
  have hpv := h.v.take (frm 0 (four x) l[x])
  rw [e2] at hpv ⊢
  have hnm : (x : Int) ∉ st.L := fun hm => by have := h.lt _ hm; omega
  have htb : takeB 64 st.L (x : Int) = true := by simp only [takeB, decide_eq_true_eq]; rw [h.base]; exact ⟨hnm, by omega, by omega⟩
  have htl : takeL 64 st.L (x : Int) = st.L ++ [(x : Int)] := by unfold takeL; rw [if_pos htb]
  have hb2 : baseOf (st.L ++ [(x : Int)]) = x + 1 := by
    refine (baseOf_eq _ _ (fun k hk => ?_) ?_).symm
    · by_cases e : k = x
      · rw [e]; simp
      · have := (baseOf_ok st.L).1 k (by rw [h.base]; omega)
        simp [this]
    · intro hm
      rw [List.mem_append, List.mem_singleton] at hm
      rcases hm with hm | hm
      · have := h.lt _ hm; omega
      · omega
  have hh : hv (held1 (ackS st ((0 : Nat) : Int)) (x : Int) l[x]) ((x : Nat) : Int) = l[x] := by
    show Go.Proofs.hv (if takeB 64 st.L (x : Int) = true then mset st.held (x : Int) l[x] else st.held) _ = _
    rw [if_pos htb]
    unfold Go.Proofs.hv
    rw [mget_mset, if_pos rfl]; rfl
  have hX : (bodyX (ackS st ((0 : Nat) : Int)) (x : Int) l[x]).1 = l.take (x + 1) := by
    show (tellN (st.told, held1 (ackS st ((0 : Nat) : Int)) (x : Int) l[x]) (baseOf st.L) (baseOf (takeL 64 st.L (x : Int)) - baseOf st.L)).1 = _
    rw [htl, hb2, h.base, show x + 1 - x = 0 + 1 by omega]
    simp only [tellN, Nat.add_zero]
    rw [hh, h.told, List.take_succ_eq_append_getElem hx]
  refine ⟨e1, ⟨?_, ?_, ?_, ?_, ?_, hX, rfl, h.sent, hpv.tight ?_ ?_⟩⟩
  · show ackO st.op _ = []
    rw [h.op]; rfl
  · show ackL st.tm _ = []
    rw [h.tm]; rfl
  · show baseOf (takeL 64 st.L (x : Int)) = _
    rw [htl, hb2]
  · intro z hz
    have hz : z ∈ takeL 64 st.L (x : Int) := hz
    rw [htl, List.mem_append, List.mem_singleton] at hz
    rcases hz with hz | hz
    · have := h.lt z hz; omega
    · omega
  · show (takeL 64 st.L (x : Int)).length = _
    rw [htl]; simp [h.Ll]
  · show (takeL 64 st.L (x : Int)).length ≤ _
    rw [htl]; simp [h.Ll]; omega
  · show st.sent ≤ _
    rw [h.sent]; omega
theorem CB.poll {l : List By} {x : Nat} {o : Bool} {st : Ps} (h : CB l x o st) (now : Int) : pollO st now = (if o = true then [frm x [] []] else []) ∧ CB l x false (pollS st now) := by
  have ho : outL (baseOf st.L) (dueO st.tm now) st.op = [] := by rw [h.op]; rfl
  refine ⟨?_, ⟨by simp only [pollS, h.op]; rfl, by simp only [pollS, h.op, h.tm, dueL_nil]; rfl, h.base, h.lt, h.Ll, h.told, rfl, h.sent, h.v.poll now⟩⟩
  unfold pollO
  rw [ho, h.base, h.owe]
  cases o <;> simp
theorem frs_get (l : List By) (x j i : Nat) (h : i < j) (h2 : i < (frs l x j).length) (hx : x + i < l.length) : (frs l x j)[i] = frm 0 (four (x + i)) l[x + i] := by
  have h3 : (frs l x j)[i]? = some (frm 0 (four (x + i)) l[x + i]) := by
    unfold frs
    rw [List.getElem?_map, List.getElem?_range h, Option.map_some, List.getD_eq_getElem?_getD, List.getElem?_eq_getElem hx]; rfl
  rw [List.getElem?_eq_getElem h2] at h3
  exact Option.some.inj h3
theorem frm_len (b : Nat) (q s : By) : (frm b q s).length = 24 + q.length + s.length := by
  have := texts3_len q (four b) s
  have h2 : (frm b q s).length = 8 + (texts [q, four b, s]).length := frame_len _
  have h3 : (four b).length = 4 := rfl
  omega
attribute [local irreducible] J JL QOp JOp seqQ blockQ loopQ retQ slc cel hex star pur stars Does RV Ent pAt scopeQ
attribute [local irreducible] mpC pipeA
theorem calm_calls (E : World) (room : Int) (T : SV) (l : List By) : Does Try.prog E 4 [.int .i64 room, T.v] [slc tS false T l] fun v L => v = .bool true ∧ L = [] := by
  have hn := ppnew_ok E room
  obtain ⟨hR1, hR2⟩ := winSize_rng room
  generalize winSize room = R at *
  refine Does.of Try.func4 rfl Try.ntmps4 rfl rfl fun F => ?_
  refine J.norm ?_
  refine J_seq ?_
  refine J_region ?_
  refine L_q (Q_assign rfl) rfl rfl rfl ?_
  refine JL_nil ?_
  refine seqQ_normal ?_
  refine J_seq ?_
  refine J_seq ?_
  refine J_region ?_
  refine L_q (Q_move rfl) rfl rfl rfl ?_
  refine L_q (Q_lenAt 0 rfl rfl) rfl rfl rfl ?_
  refine L_q (Q_gtr rfl rfl) rfl rfl rfl ?_
  refine JL_nil ?_
  refine seqQ_normal ?_
  refine J_condD rfl (fun h0 => ?_) (fun h0 => ?_)
  · refine J_seq ?_
    refine J_region ?_
    refine L_o rfl rfl rfl (O_call [] [0,1] (awake_ok E) rfl rfl ?_)
    rintro _ _ ⟨rfl, rfl⟩
    refine JL.norm ?_
    refine L_q (Q_assign rfl) rfl rfl rfl ?_
    refine JL_nil ?_
    refine seqQ_normal ?_
    refine J_ret ?_
    refine seqQ_ret ?_
    exact retQ_ret _ [] (.cons (RV_tmp rfl) .nil) ⟨rfl, rfl⟩ (Ent.re [1] rfl)
  have hl : l.length ≤ 60 := by omega
  refine J_skip ?_
  refine seqQ_normal ?_
  refine J_seq ?_
  refine J_seq ?_
  refine J_region ?_
  refine L_q (Q_assign rfl) rfl rfl rfl ?_
  refine JL_nil ?_
  refine seqQ_normal ?_
  refine J_block ?_
  refine J_loop (fun k : Nat => k ≤ l.length ∧ ∀ x ∈ l.take k, x.length ≤ 4000) (fun k => [(0, .int .i64 room), (1, T.v), (5, .int .i64 (k : Int))]) (fun _ => [slc tS false T l, F]) (fun k => l.length - k) 0 ⟨by omega, by simp⟩ ⟨rfl, rfl, rfl, trivial⟩ (Ent.refl _) ?_
  rintro k ⟨hk, hall⟩
  refine J_seq ?_
  refine J_seq ?_
  refine J_region ?_
  refine L_q (Q_move rfl) rfl rfl rfl ?_
  refine L_q (Q_move rfl) rfl rfl rfl ?_
  refine L_q (Q_lenAt 0 rfl rfl) rfl rfl rfl ?_
  refine L_q (Q_lss rfl rfl) rfl rfl rfl ?_
  refine JL_nil ?_
  refine seqQ_normal ?_
  refine J_condD rfl (fun h => ?_) (fun h => ?_)
  · have hlt : k < l.length := by omega
    by_cases h4 : l[k].length > 4000
    · refine J_skip ?_
      refine seqQ_normal ?_
      refine J_seq ?_
      refine J_block ?_
      refine J_seq ?_
      refine J_region ?_
      refine L_q (Q_move rfl) rfl rfl rfl ?_
      refine L_q (Q_move rfl) rfl rfl rfl ?_
      refine L_q (Q_ixAt 0 k rfl rfl rfl rfl hlt rfl) rfl rfl rfl ?_
      refine L_q (Q_ldEAt 0 k 0 (v := str l[k]) rfl rfl rfl rfl hlt (by decide) rfl) rfl rfl rfl ?_
      refine L_q (Q_slen rfl) rfl rfl rfl ?_
      refine L_q ((Q_gtr rfl rfl).as (v' := .bool true) (congrArg Value.bool (decide_eq_true (by omega)))) rfl rfl rfl ?_
      refine JL_nil ?_
      refine seqQ_normal ?_
      refine J_condT rfl ?_
      refine J_seq ?_
      refine J_region ?_
      refine L_o rfl rfl rfl (O_call [] [0,1] (awake_ok E) rfl rfl ?_)
      rintro _ _ ⟨rfl, rfl⟩
      refine JL.norm ?_
      refine L_q (Q_assign rfl) rfl rfl rfl ?_
      refine JL_nil ?_
      refine seqQ_normal ?_
      refine J_ret ?_
      refine blockQ_ret ?_
      refine seqQ_ret ?_
      refine loopQ_ret ?_
      refine blockQ_ret ?_
      refine seqQ_ret ?_
      exact retQ_ret _ [] (.cons (RV_tmp rfl) .nil) ⟨rfl, rfl⟩ (Ent.re [1] rfl)
    · refine J_skip ?_
      refine seqQ_normal ?_
      refine J_seq ?_
      refine J_block ?_
      refine J_seq ?_
      refine J_region ?_
      refine L_q (Q_move rfl) rfl rfl rfl ?_
      refine L_q (Q_move rfl) rfl rfl rfl ?_
      refine L_q (Q_ixAt 0 k rfl rfl rfl rfl hlt rfl) rfl rfl rfl ?_
      refine L_q (Q_ldEAt 0 k 0 (v := str l[k]) rfl rfl rfl rfl hlt (by decide) rfl) rfl rfl rfl ?_
      refine L_q (Q_slen rfl) rfl rfl rfl ?_
      refine L_q ((Q_gtr rfl rfl).as (v' := .bool false) (congrArg Value.bool (decide_eq_false (by omega)))) rfl rfl rfl ?_
      refine JL_nil ?_
      refine seqQ_normal ?_
      refine J_condF rfl ?_
      refine J_skip ?_
      refine blockQ_normal ?_
      refine seqQ_normal ?_
      refine J_region ?_
      refine L_q (Q_move rfl) rfl rfl rfl ?_
      refine L_q (Q_add rfl rfl (by first | exact IntWalk.i64_in _ (by omega) | exact IntWalk.u8_in _ (by omega) | exact IntWalk.u32_in _ (by omega) | exact IntWalk.u64_in _ (by omega) | rfl)) rfl rfl rfl ?_
      refine L_q (Q_assign rfl) rfl rfl rfl ?_
      refine JL_nil ?_
      refine loopQ_normal (k + 1) ⟨hlt, fun x hx => ?_⟩ (by omega) ⟨rfl, rfl, rfl, trivial⟩ (Ent.refl _)
      rw [List.take_succ_eq_append_getElem hlt, List.mem_append, List.mem_singleton] at hx
      rcases hx with hx | rfl
      · exact hall x hx
      · omega
  obtain rfl : k = l.length := by omega
  rw [List.take_length] at hall
  refine J_exit ?_
  refine seqQ_exit ?_
  refine loopQ_exit ?_
  refine blockQ_hit ?_
  refine seqQ_normal ?_
  refine J_seq ?_
  refine J_region ?_
  refine L_q (Q_move rfl) rfl rfl rfl ?_
  refine L_o rfl rfl rfl (O_call [] [0,1] hn rfl rfl ?_)
  rintro _ _ ⟨pa, rfl, rfl⟩
  refine JL.norm ?_
  refine L_q (Q_move rfl) rfl rfl rfl ?_
  refine L_o rfl rfl rfl (O_call [] [0,1,2] hn rfl rfl ?_)
  rintro _ _ ⟨pb, rfl, rfl⟩
  refine JL.norm ?_
  refine L_q (Q_assign rfl) rfl rfl rfl ?_
  refine L_q (Q_assign rfl) rfl rfl rfl ?_
  refine JL_nil ?_
  refine seqQ_normal ?_
  refine J_seq ?_
  refine J_region ?_
  refine L_q (Q_assign rfl) rfl rfl rfl ?_
  refine JL_nil ?_
  refine seqQ_normal ?_
  refine J_seq ?_
  refine J_seq ?_
  refine J_region ?_
  refine L_q (Q_assign rfl) rfl rfl rfl ?_
  refine JL_nil ?_
  refine seqQ_normal ?_
  refine J_block ?_
  refine J_loop (fun i : Nat × Nat × Ps × Ps => i.1 ≤ 2 * l.length + 3 ∧ i.2.1 ≤ l.length ∧ min i.1 l.length ≤ i.2.1 ∧ CA R i.2.1 0 l i.2.2.1 ∧ CB l i.2.1 false i.2.2.2)
    (fun i => [(1, T.v), (6, .pointer (some ⟨pa, 0, none⟩)), (7, .pointer (some ⟨pb, 0, none⟩)), (8, .int .i64 (i.2.1 : Int)), (9, .int .i64 (i.1 : Int))])
    (fun i => [pipeA pa i.2.2.1, pipeA pb i.2.2.2, slc tS false T l, F]) (fun i => 2 * l.length + 3 - i.1) (0, 0, new R, new R) ⟨by simp, by simp, by simp, CA.new hR1 hR2 l, CB.new hR1 hR2 l⟩ ⟨rfl, rfl, rfl, rfl, rfl, trivial⟩ (Ent.re [1, 0, 2, 3] rfl) ?_
  rintro ⟨t, x, sa, sb⟩ ⟨ht, hx, hmin, hA, hB⟩
  dsimp only at ht hx hmin hA hB ⊢
  refine J_seq ?_
  refine J_seq ?_
  refine J_region ?_
  refine L_q (Q_move rfl) rfl rfl rfl ?_
  refine L_q (Q_move rfl) rfl rfl rfl ?_
  refine L_q (Q_lenAt 2 rfl rfl) rfl rfl rfl ?_
  refine L_q (Q_mul rfl rfl (by first | exact IntWalk.i64_in _ (by omega) | exact IntWalk.u8_in _ (by omega) | exact IntWalk.u32_in _ (by omega) | exact IntWalk.u64_in _ (by omega) | rfl)) rfl rfl rfl ?_
  refine L_q (Q_add rfl rfl (by first | exact IntWalk.i64_in _ (by omega) | exact IntWalk.u8_in _ (by omega) | exact IntWalk.u32_in _ (by omega) | exact IntWalk.u64_in _ (by omega) | rfl)) rfl rfl rfl ?_
  refine L_q (Q_leq rfl rfl) rfl rfl rfl ?_
  refine JL_nil ?_
  refine seqQ_normal ?_
  refine J_condD rfl (fun h1 => ?_) (fun h1 => ?_)
  · have htl : t ≤ 2 * l.length + 2 := by omega
    have hmo : moment (t : Int) = true := decide_eq_true (by omega)
    refine J_skip ?_
    refine seqQ_normal ?_
    refine J_seq ?_
    refine J_block ?_
    refine J_seq ?_
    refine J_block ?_
    refine J.cutB (fun e ρ' L' => e = .normal ∧ ∃ j sa1, (x + j = l.length ∨ j = R) ∧ x + j ≤ l.length ∧ CA R x j l sa1 ∧ envSub [(1, T.v), (6, .pointer (some ⟨pa, 0, none⟩)), (7, .pointer (some ⟨pb, 0, none⟩)), (8, .int .i64 ((x + j : Nat) : Int)), (9, .int .i64 (t : Int))] ρ' ∧ L' = [pipeA pa sa1, pipeA pb sb, slc tS false T l, F]) ?_ ?_
    · refine J_loop (fun i : Nat × Ps => x + i.1 ≤ l.length ∧ CA R x i.1 l i.2) (fun i => [(1, T.v), (6, .pointer (some ⟨pa, 0, none⟩)), (7, .pointer (some ⟨pb, 0, none⟩)), (8, .int .i64 ((x + i.1 : Nat) : Int)), (9, .int .i64 (t : Int))]) (fun i => [pipeA pa i.2, pipeA pb sb, slc tS false T l, F]) (fun i => l.length - (x + i.1)) (0, sa) ⟨hx, hA⟩ ⟨rfl, rfl, rfl, rfl, rfl, trivial⟩ (Ent.refl _) ?_
      rintro ⟨j, sa1⟩ ⟨hj, hA1⟩
      dsimp only at hj hA1 ⊢
      have hjR := hA1.le
      by_cases hlt : x + j < l.length
      · have h4 := hall l[x + j] (List.getElem_mem hlt)
        have hs := psend_ok E pa sa1 100 l[x + j] hA1.v (by omega)
        by_cases hjr : j < R
        · obtain ⟨e1, hA2⟩ := hA1.send hlt hl h4 hjr
          rw [e1] at hs
          refine J_seq ?_
          refine J_seq ?_
          refine J_region ?_
          refine L_q (Q_move rfl) rfl rfl rfl ?_
          refine L_q (Q_move rfl) rfl rfl rfl ?_
          refine L_q (Q_lenAt 2 rfl rfl) rfl rfl rfl ?_
          refine L_q ((Q_lss rfl rfl).as (v' := .bool true) (congrArg Value.bool (decide_eq_true (by omega)))) rfl rfl rfl ?_
          refine L_q (Q_move rfl) rfl rfl rfl ?_
          refine L_q (Q_move rfl) rfl rfl rfl ?_
          refine L_q (Q_move rfl) rfl rfl rfl ?_
          refine L_q (Q_move rfl) rfl rfl rfl ?_
          refine L_q (Q_ixAt 2 (x + j) rfl rfl rfl rfl hlt rfl) rfl rfl rfl ?_
          refine L_q (Q_ldEAt 2 (x + j) 0 (v := str l[x + j]) rfl rfl rfl rfl hlt (by decide) rfl) rfl rfl rfl ?_
          refine L_o rfl rfl rfl (O_call [0] [1,2,3] hs rfl rfl ?_)
          rintro _ _ ⟨rfl, rfl⟩
          refine JL.norm ?_
          refine L_q ((Q_eql rfl rfl).as (v' := .bool true) rfl) rfl rfl rfl ?_
          refine L_q (Q_pickT rfl rfl) rfl rfl rfl ?_
          refine JL_nil ?_
          refine seqQ_normal ?_
          refine J_condT rfl ?_
          refine J_skip ?_
          refine seqQ_normal ?_
          refine J_block ?_
          refine J_region ?_
          refine L_q (Q_move rfl) rfl rfl rfl ?_
          refine L_q (Q_add rfl rfl (by first | exact IntWalk.i64_in _ (by omega) | exact IntWalk.u8_in _ (by omega) | exact IntWalk.u32_in _ (by omega) | exact IntWalk.u64_in _ (by omega) | rfl)) rfl rfl rfl ?_
          refine L_q (Q_assign rfl) rfl rfl rfl ?_
          refine JL_nil ?_
          refine blockQ_normal ?_
          exact loopQ_normal (j + 1, sendS sa1 l[x + j]) ⟨hlt, hA2⟩ (by simp only; omega) ⟨rfl, rfl, rfl, rfl, rfl, trivial⟩ (Ent.refl _)
        · obtain ⟨e1, e2⟩ := hA1.full (s := l[x + j]) h4 hjr
          rw [e1, e2] at hs
          refine J_seq ?_
          refine J_seq ?_
          refine J_region ?_
          refine L_q (Q_move rfl) rfl rfl rfl ?_
          refine L_q (Q_move rfl) rfl rfl rfl ?_
          refine L_q (Q_lenAt 2 rfl rfl) rfl rfl rfl ?_
          refine L_q ((Q_lss rfl rfl).as (v' := .bool true) (congrArg Value.bool (decide_eq_true (by omega)))) rfl rfl rfl ?_
          refine L_q (Q_move rfl) rfl rfl rfl ?_
          refine L_q (Q_move rfl) rfl rfl rfl ?_
          refine L_q (Q_move rfl) rfl rfl rfl ?_
          refine L_q (Q_move rfl) rfl rfl rfl ?_
          refine L_q (Q_ixAt 2 (x + j) rfl rfl rfl rfl hlt rfl) rfl rfl rfl ?_
          refine L_q (Q_ldEAt 2 (x + j) 0 (v := str l[x + j]) rfl rfl rfl rfl hlt (by decide) rfl) rfl rfl rfl ?_
          refine L_o rfl rfl rfl (O_call [0] [1,2,3] hs rfl rfl ?_)
          rintro _ _ ⟨rfl, rfl⟩
          refine JL.norm ?_
          refine L_q ((Q_eql rfl rfl).as (v' := .bool false) rfl) rfl rfl rfl ?_
          refine L_q (Q_pickT rfl rfl) rfl rfl rfl ?_
          refine JL_nil ?_
          refine seqQ_normal ?_
          refine J_condF rfl ?_
          refine J_exit ?_
          refine seqQ_exit ?_
          refine loopQ_exit ?_
          refine blockQ_hit ?_
          exact ⟨rfl, j, sa1, .inr (by omega), hj, hA1, ⟨rfl, rfl, rfl, rfl, rfl, trivial⟩, rfl⟩
      · refine J_seq ?_
        refine J_seq ?_
        refine J_region ?_
        refine L_q (Q_move rfl) rfl rfl rfl ?_
        refine L_q (Q_move rfl) rfl rfl rfl ?_
        refine L_q (Q_lenAt 2 rfl rfl) rfl rfl rfl ?_
        refine L_q ((Q_lss rfl rfl).as (v' := .bool false) (congrArg Value.bool (decide_eq_false (by omega)))) rfl rfl rfl ?_
        refine L_q (Q_move rfl) rfl rfl rfl ?_
        refine L_n rfl rfl rfl ?_
        refine L_n rfl rfl rfl ?_
        refine L_n rfl rfl rfl ?_
        refine L_n rfl rfl rfl ?_
        refine L_n rfl rfl rfl ?_
        refine L_n rfl rfl rfl ?_
        refine L_n rfl rfl rfl ?_
        refine L_q (Q_pickF rfl rfl) rfl rfl rfl ?_
        refine JL_nil ?_
        refine seqQ_normal ?_
        refine J_condF rfl ?_
        refine J_exit ?_
        refine seqQ_exit ?_
        refine loopQ_exit ?_
        refine blockQ_hit ?_
        exact ⟨rfl, j, sa1, .inl (by omega), hj, hA1, ⟨rfl, rfl, rfl, rfl, rfl, trivial⟩, rfl⟩
    rintro _ ρ' L' ⟨rfl, j, sa1, hend, hxj, hA1, hsub, rfl⟩
    refine seqQ_normal ?_
    refine J.sub hsub ?_
    obtain ⟨eO, hS⟩ := hA1.poll (t : Int)
    have hpo := ppoll_ok E pa sa1 100 (t : Int) hA1.v (by omega) hmo
    rw [eO] at hpo
    generalize pollS sa1 (t : Int) = sa2 at *
    have hfl : (frs l x j).length = j := by simp [frs]
    have hfg := fun i hi hi2 => frs_get l x j i hi hi2
    generalize frs l x j = fr at *
    refine J_seq ?_
    refine J_region ?_
    refine L_q (Q_move rfl) rfl rfl rfl ?_
    refine L_q (Q_move rfl) rfl rfl rfl ?_
    refine L_o rfl rfl rfl (O_call [0] [1,2,3] hpo rfl rfl ?_)
    rintro _ _ ⟨O, rfl, rfl⟩
    refine JL.norm ?_
    refine L_q (Q_assign rfl) rfl rfl rfl ?_
    refine JL_nil ?_
    refine seqQ_normal ?_
    refine J_seq ?_
    refine J_seq ?_
    refine J_region ?_
    refine L_q (Q_assign rfl) rfl rfl rfl ?_
    refine JL_nil ?_
    refine seqQ_normal ?_
    refine J_block ?_
    refine J.cutB (fun e ρ' L' => e = .normal ∧ ∃ sb1, CB l (x + j) (decide (0 < j)) sb1 ∧ envSub [(1, T.v), (6, .pointer (some ⟨pa, 0, none⟩)), (7, .pointer (some ⟨pb, 0, none⟩)), (8, .int .i64 ((x + j : Nat) : Int)), (9, .int .i64 (t : Int))] ρ' ∧ L' = [pipeA pb sb1, pipeA pa sa2, slc tS true O fr, slc tS false T l, F]) ?_ ?_
    · refine J_loop (fun i : Nat × Ps => i.1 ≤ j ∧ CB l (x + i.1) (decide (0 < i.1)) i.2) (fun i => [(1, T.v), (6, .pointer (some ⟨pa, 0, none⟩)), (7, .pointer (some ⟨pb, 0, none⟩)), (8, .int .i64 ((x + j : Nat) : Int)), (9, .int .i64 (t : Int)), (10, O.v), (11, .int .i64 (i.1 : Int))]) (fun i => [pipeA pb i.2, pipeA pa sa2, slc tS true O fr, slc tS false T l, F]) (fun i => j - i.1) (0, sb) ⟨Nat.zero_le _, hB⟩ ⟨rfl, rfl, rfl, rfl, rfl, rfl, rfl, trivial⟩ (Ent.re [2, 0, 1, 3, 4] rfl) ?_
      rintro ⟨i, sb1⟩ ⟨hi, hB1⟩
      dsimp only at hi hB1 ⊢
      by_cases hij : i < j
      · have hxi : x + i < l.length := by omega
        have hif : i < fr.length := by omega
        have h4 := hall l[x + i] (List.getElem_mem hxi)
        obtain ⟨e1, hB2⟩ := hB1.take hxi hl h4
        have hg := hfg i hij hif hxi
        have htk := ptake_ok E pb sb1 100 (frm 0 (four (x + i)) l[x + i]) hB1.v (by omega) (by rw [frm_len]; simp [four]; omega)
        rw [e1] at htk
        generalize frm 0 (four (x + i)) l[x + i] = f at *
        refine J_seq ?_
        refine J_seq ?_
        refine J_region ?_
        refine L_q (Q_move rfl) rfl rfl rfl ?_
        refine L_q (Q_move rfl) rfl rfl rfl ?_
        refine L_q (Q_lenAt 2 rfl rfl) rfl rfl rfl ?_
        refine L_q ((Q_lss rfl rfl).as (v' := .bool true) (congrArg Value.bool (decide_eq_true (by omega)))) rfl rfl rfl ?_
        refine JL_nil ?_
        refine seqQ_normal ?_
        refine J_condT rfl ?_
        refine J_skip ?_
        refine seqQ_normal ?_
        refine J_seq ?_
        refine J_block ?_
        refine J_region ?_
        refine L_q (Q_move rfl) rfl rfl rfl ?_
        refine L_q (Q_move rfl) rfl rfl rfl ?_
        refine L_q (Q_move rfl) rfl rfl rfl ?_
        refine L_q (Q_ixAt 2 i rfl rfl rfl rfl hif rfl) rfl rfl rfl ?_
        refine L_q (Q_ldEAt 2 i 0 (v := str f) rfl rfl rfl rfl hif (by decide) (by rw [hg]; rfl)) rfl rfl rfl ?_
        refine L_o rfl rfl rfl (O_call [0] [1,2,3,4] htk rfl rfl ?_)
        rintro _ _ ⟨rfl, rfl⟩
        refine JL.norm ?_
        refine JL_nil ?_
        refine blockQ_normal ?_
        refine seqQ_normal ?_
        refine J_region ?_
        refine L_q (Q_move rfl) rfl rfl rfl ?_
        refine L_q (Q_add rfl rfl (by first | exact IntWalk.i64_in _ (by omega) | exact IntWalk.u8_in _ (by omega) | exact IntWalk.u32_in _ (by omega) | exact IntWalk.u64_in _ (by omega) | rfl)) rfl rfl rfl ?_
        refine L_q (Q_assign rfl) rfl rfl rfl ?_
        refine JL_nil ?_
        exact loopQ_normal (i + 1, takeS sb1 f) ⟨hij, by show CB l (x + (i + 1)) (decide (0 < i + 1)) _; rw [decide_eq_true (show 0 < i + 1 by omega)]; exact hB2⟩ (by simp only; omega) ⟨rfl, rfl, rfl, rfl, rfl, rfl, rfl, trivial⟩ (Ent.refl _)
      · obtain rfl : i = j := by omega
        refine J_seq ?_
        refine J_seq ?_
        refine J_region ?_
        refine L_q (Q_move rfl) rfl rfl rfl ?_
        refine L_q (Q_move rfl) rfl rfl rfl ?_
        refine L_q (Q_lenAt 2 rfl rfl) rfl rfl rfl ?_
        refine L_q ((Q_lss rfl rfl).as (v' := .bool false) (congrArg Value.bool (decide_eq_false (by omega)))) rfl rfl rfl ?_
        refine JL_nil ?_
        refine seqQ_normal ?_
        refine J_condF rfl ?_
        refine J_exit ?_
        refine seqQ_exit ?_
        refine loopQ_exit ?_
        refine blockQ_hit ?_
        exact ⟨rfl, sb1, hB1, ⟨rfl, rfl, rfl, rfl, rfl, trivial⟩, rfl⟩
    rintro _ ρ' L' ⟨rfl, sb1, hB1, hsub, rfl⟩
    refine seqQ_normal ?_
    refine J.sub hsub ?_
    obtain ⟨eB, hB2⟩ := hB1.poll (t : Int)
    have hpb := ppoll_ok E pb sb1 100 (t : Int) hB1.v (by omega) hmo
    rw [eB] at hpb
    generalize pollS sb1 (t : Int) = sb2 at *
    have hbl : (if decide (0 < j) = true then [frm (x + j) [] []] else []).length = if 0 < j then 1 else 0 := by by_cases e : 0 < j <;> simp [e]
    have hbg : ∀ (i : Nat) (h : i < (if decide (0 < j) = true then [frm (x + j) [] []] else []).length), (if decide (0 < j) = true then [frm (x + j) [] []] else [])[i] = frm (x + j) [] [] ∧ i = 0 := by
      intro i h
      by_cases e : 0 < j
      · have h' := h
        rw [hbl, if_pos e] at h'
        obtain rfl : i = 0 := by omega
        simp [e]
      · rw [hbl, if_neg e] at h; omega
    generalize (if decide (0 < j) = true then [frm (x + j) [] []] else []) = bk at *
    obtain ⟨e1, e2⟩ := take_ack (st := sa2) (readP_ack (x + j) (by omega))
    have htk := ptake_ok E pa sa2 100 (frm (x + j) [] []) hS.v (by omega) (by rw [frm_len]; simp)
    rw [e1, e2] at htk
    generalize frm (x + j) [] [] = f at *
    have hfin : CA R (x + j) 0 l (if bk.length = 0 then sa2 else ackS sa2 ((x + j : Nat) : Int)) := by
      by_cases e : 0 < j
      · rw [if_neg (by rw [hbl, if_pos e]; simp)]; exact hS.ack
      · rw [if_pos (by rw [hbl, if_neg e])]; exact hS.none (by omega)
    refine J_seq ?_
    refine J_region ?_
    refine L_q (Q_move rfl) rfl rfl rfl ?_
    refine L_q (Q_move rfl) rfl rfl rfl ?_
    refine L_o rfl rfl rfl (O_call [0] [1,2,3,4] hpb rfl rfl ?_)
    rintro _ _ ⟨O2, rfl, rfl⟩
    refine JL.norm ?_
    refine L_q (Q_assign rfl) rfl rfl rfl ?_
    refine JL_nil ?_
    refine seqQ_normal ?_
    refine J_seq ?_
    refine J_region ?_
    refine L_q (Q_assign rfl) rfl rfl rfl ?_
    refine JL_nil ?_
    refine seqQ_normal ?_
    refine J_block ?_
    refine J_loop (fun i : Nat => i ≤ bk.length) (fun i => [(1, T.v), (6, .pointer (some ⟨pa, 0, none⟩)), (7, .pointer (some ⟨pb, 0, none⟩)), (8, .int .i64 ((x + j : Nat) : Int)), (9, .int .i64 (t : Int)), (12, O2.v), (13, .int .i64 (i : Int))]) (fun i => [pipeA pa (if i = 0 then sa2 else ackS sa2 ((x + j : Nat) : Int)), pipeA pb sb2, slc tS true O2 bk, slc tS false T l, F]) (fun i => bk.length - i) 0 (Nat.zero_le _) ⟨rfl, rfl, rfl, rfl, rfl, rfl, rfl, trivial⟩ (Ent.re [2, 0, 1, 4, 5] rfl) ?_
    intro i hi
    by_cases hib : i < bk.length
    · obtain ⟨hg, rfl⟩ := hbg i hib
      rw [if_pos rfl]
      refine J_seq ?_
      refine J_seq ?_
      refine J_region ?_
      refine L_q (Q_move rfl) rfl rfl rfl ?_
      refine L_q (Q_move rfl) rfl rfl rfl ?_
      refine L_q (Q_lenAt 2 rfl rfl) rfl rfl rfl ?_
      refine L_q ((Q_lss rfl rfl).as (v' := .bool true) (congrArg Value.bool (decide_eq_true (by omega)))) rfl rfl rfl ?_
      refine JL_nil ?_
      refine seqQ_normal ?_
      refine J_condT rfl ?_
      refine J_skip ?_
      refine seqQ_normal ?_
      refine J_seq ?_
      refine J_block ?_
      refine J_region ?_
      refine L_q (Q_move rfl) rfl rfl rfl ?_
      refine L_q (Q_move rfl) rfl rfl rfl ?_
      refine L_q (Q_move rfl) rfl rfl rfl ?_
      refine L_q (Q_ixAt 2 0 rfl rfl rfl rfl hib rfl) rfl rfl rfl ?_
      refine L_q (Q_ldEAt 2 0 0 (v := str f) rfl rfl rfl rfl hib (by decide) (by rw [hg]; rfl)) rfl rfl rfl ?_
      refine L_o rfl rfl rfl (O_call [0] [1,2,3,4] htk rfl rfl ?_)
      rintro _ _ ⟨rfl, rfl⟩
      refine JL.norm ?_
      refine JL_nil ?_
      refine blockQ_normal ?_
      refine seqQ_normal ?_
      refine J_region ?_
      refine L_q (Q_move rfl) rfl rfl rfl ?_
      refine L_q (Q_add rfl rfl (by first | exact IntWalk.i64_in _ (by omega) | exact IntWalk.u8_in _ (by omega) | exact IntWalk.u32_in _ (by omega) | exact IntWalk.u64_in _ (by omega) | rfl)) rfl rfl rfl ?_
      refine L_q (Q_assign rfl) rfl rfl rfl ?_
      refine JL_nil ?_
      exact loopQ_normal (0 + 1) hib (by omega) ⟨rfl, rfl, rfl, rfl, rfl, rfl, rfl, trivial⟩ (Ent.refl _)
    · obtain rfl : i = bk.length := by omega
      generalize (if bk.length = 0 then sa2 else ackS sa2 ((x + j : Nat) : Int)) = sa3 at *
      refine J_seq ?_
      refine J_seq ?_
      refine J_region ?_
      refine L_q (Q_move rfl) rfl rfl rfl ?_
      refine L_q (Q_move rfl) rfl rfl rfl ?_
      refine L_q (Q_lenAt 2 rfl rfl) rfl rfl rfl ?_
      refine L_q ((Q_lss rfl rfl).as (v' := .bool false) (congrArg Value.bool (decide_eq_false (by omega)))) rfl rfl rfl ?_
      refine JL_nil ?_
      refine seqQ_normal ?_
      refine J_condF rfl ?_
      refine J_exit ?_
      refine seqQ_exit ?_
      refine loopQ_exit ?_
      refine blockQ_hit ?_
      refine blockQ_normal ?_
      refine seqQ_normal ?_
      refine J_region ?_
      refine L_q (Q_move rfl) rfl rfl rfl ?_
      refine L_q (Q_add rfl rfl (by first | exact IntWalk.i64_in _ (by omega) | exact IntWalk.u8_in _ (by omega) | exact IntWalk.u32_in _ (by omega) | exact IntWalk.u64_in _ (by omega) | rfl)) rfl rfl rfl ?_
      refine L_q (Q_assign rfl) rfl rfl rfl ?_
      refine JL_nil ?_
      exact loopQ_normal (t + 1, x + j, sa3, sb2) ⟨by simp only; omega, hxj, by simp only; omega, hfin, hB2⟩ (by simp only; omega) ⟨rfl, rfl, rfl, rfl, rfl, trivial⟩ (Ent.re [0, 1, 3, 4] rfl)
  · obtain rfl : x = l.length := by omega
    have htd := ptold_ok E pb sb 100 hB.v (by omega)
    rw [hB.told, List.take_length] at htd
    have hop := popen_ok E pa sa
    rw [hA.op] at hop
    have hsm := fun U => rtexts_ok E true false U T l l (by omega)
    rw [decide_eq_true rfl] at hsm
    refine J_exit ?_
    refine seqQ_exit ?_
    refine loopQ_exit ?_
    refine blockQ_hit ?_
    refine seqQ_normal ?_
    refine J_seq ?_
    refine J_region ?_
    refine L_q (Q_move rfl) rfl rfl rfl ?_
    refine L_o rfl rfl rfl (O_call [1] [0,2,3] htd rfl rfl ?_)
    rintro _ _ ⟨U, rfl, rfl⟩
    refine JL.norm ?_
    refine L_q (Q_move rfl) rfl rfl rfl ?_
    refine L_o rfl rfl rfl (O_call [1,3] [0,2,4] (hsm U) rfl rfl ?_)
    rintro _ _ ⟨rfl, rfl⟩
    refine JL.norm ?_
    refine L_q (Q_move rfl) rfl rfl rfl ?_
    refine L_q (Q_move rfl) rfl rfl rfl ?_
    refine L_o rfl rfl rfl (O_call [3] [0,1,2,4] hop rfl rfl ?_)
    rintro _ _ ⟨rfl, rfl⟩
    refine JL.norm ?_
    refine L_q ((Q_eql rfl rfl).as (v' := .bool true) rfl) rfl rfl rfl ?_
    refine L_q (Q_pickT rfl rfl) rfl rfl rfl ?_
    refine L_q (Q_move rfl) rfl rfl rfl ?_
    refine L_o rfl rfl rfl (O_call [] [0,1,2,3,4] (awake_ok E) rfl rfl ?_)
    rintro _ _ ⟨rfl, rfl⟩
    refine JL.norm ?_
    refine L_q (Q_pickT rfl rfl) rfl rfl rfl ?_
    refine L_q (Q_assign rfl) rfl rfl rfl ?_
    refine JL_nil ?_
    refine seqQ_normal ?_
    refine J_ret ?_
    exact retQ_ret _ [] (.cons (RV_tmp rfl) .nil) ⟨rfl, rfl⟩ (Ent.re [4] rfl)
end Go.Proofs
