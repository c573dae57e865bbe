/- Two ends and what is under way, in plain Lean. -/
import Derived.Test.YtmmkepghmmbppaaCalm40
set_option autoImplicit false
namespace Go.SL
/-- What holds behind a block, told once. -/
theorem J.cut {P : Program} {E : World} {n id : Nat} {c d : Code} {Q : Post} {ρ : Env} {L : List HProp} (M : Post) (h : J P E n c (seqQ P E n d (blockQ id M)) ρ L) (hq : ∀ e ρ L, M e ρ L → Q e ρ L) : J P E n c (seqQ P E n d (blockQ id Q)) ρ L := by
  refine h.mono fun e ρ L he => ?_
  cases e with
  | normal => exact J.mono (show J P E n d (blockQ id M) ρ L from he) (blockQ_mon hq)
  | _ => simp only [seqQ] at he ⊢; exact blockQ_mon hq _ _ _ he
end Go.SL
namespace Go.Proofs
open Go.SL
/-- A frame of an end that has sent s. -/
def Fr (s : List By) (c : Nat) (f : By) : Prop := (∃ (b q : Nat) (t : By), b ≤ c ∧ q ≤ c ∧ t.length ≤ 4000 ∧ s[q]? = some t ∧ f = frm b (four q) t) ∨ ∃ b : Nat, b ≤ c ∧ f = frm b [] []
theorem Fr.mono {s : List By} {c d : Nat} {f : By} (h : Fr s c f) (hd : c ≤ d) : Fr s d f := by
  rcases h with ⟨b, q, t, h1, h2, h3⟩ | ⟨b, h1, h2⟩
  · exact .inl ⟨b, q, t, by omega, by omega, h3⟩
  · exact .inr ⟨b, by omega, h2⟩
theorem Fr.grow {s : List By} {c : Nat} {f : By} (h : Fr s c f) (x : By) : Fr (s ++ [x]) c f := by
  rcases h with ⟨b, q, t, h1, h2, h3, h4, h5⟩ | h
  · exact .inl ⟨b, q, t, h1, h2, h3, by rw [List.getElem?_append_left (List.getElem?_eq_some_iff.1 h4).1]; exact h4, h5⟩
  · exact .inr h
theorem Fr.len {s : List By} {c : Nat} {f : By} (h : Fr s c f) : f.length ≤ 100000 := by
  rcases h with ⟨b, q, t, h1, h2, h3, h4, rfl⟩ | ⟨b, h1, rfl⟩
  · rw [frm_len]; simp [four]; omega
  · rw [frm_len]; simp
structure EI (c : Nat) (st : Ps) (se os wy : List By) : Prop where
  v : PV st c
  sent : st.sent = se.length
  op : ∀ b ∈ st.op, ∃ q : Nat, b.seq = (q : Int) ∧ se[q]? = some b.text
  ol : st.op.length ≤ se.length
  told : st.told = os.take (baseOf st.L)
  bl : baseOf st.L ≤ os.length
  lt : ∀ x ∈ st.L, x < (os.length : Int)
  held : ∀ x ∈ st.L, (baseOf st.L : Int) ≤ x → mget st.held x = os[x.toNat]?
  fr : ∀ f ∈ wy, Fr os c f
theorem EI.mono {c d : Nat} {st : Ps} {se os wy : List By} (h : EI c st se os wy) (hd : c ≤ d) : EI d st se os wy := ⟨h.v.mono hd, h.sent, h.op, h.ol, h.told, h.bl, h.lt, h.held, fun f hf => (h.fr f hf).mono hd⟩
theorem EI.new {R : Nat} (h1 : 1 ≤ R) (h2 : R ≤ 64) : EI 0 (Go.Proofs.new R) [] [] [] := by
  have hb : baseOf (Go.Proofs.new R).L = 0 := (baseOf_eq [] 0 (by simp) (by simp)).symm
  exact ⟨PV.new R h1 h2, rfl, by simp [Go.Proofs.new], by simp [Go.Proofs.new], by rw [hb]; rfl, by rw [hb]; simp, by simp [Go.Proofs.new], by simp [Go.Proofs.new], by simp⟩
theorem EI.send {c : Nat} {st : Ps} {se os wy : List By} (h : EI c st se os wy) {t : By} (e : sendE st t = 0) : EI (c + 1) (sendS st t) (se ++ [t]) os wy := by
  have hv := h.v.send t
  have e2 : sendS st t = { st with op := st.op ++ [⟨st.sent, t, true⟩], sent := st.sent + 1 } := by unfold sendS; rw [if_pos e]
  rw [e2] at hv ⊢
  refine ⟨hv, by simp [h.sent], fun b hb => ?_, by have := h.ol; simp; omega, h.told, h.bl, h.lt, h.held, fun f hf => (h.fr f hf).mono (by omega)⟩
  rcases List.mem_append.1 hb with hb | hb
  · obtain ⟨q, h1, h2⟩ := h.op b hb
    exact ⟨q, h1, by rw [List.getElem?_append_left (List.getElem?_eq_some_iff.1 h2).1]; exact h2⟩
  · rw [List.mem_singleton] at hb
    subst hb
    exact ⟨st.sent, rfl, by rw [h.sent]; simp⟩
theorem EI.grow {c : Nat} {st : Ps} {se os wy : List By} (h : EI c st se os wy) (x : By) : EI c st se (os ++ [x]) wy := by
  refine ⟨h.v, h.sent, h.op, h.ol, ?_, by have := h.bl; simp; omega, fun y hy => by have := h.lt y hy; simp; omega, fun y hy hb => ?_, fun f hf => (h.fr f hf).grow x⟩
  · rw [h.told, List.take_append_of_le_length h.bl]
  · have h0 := h.v.Ln y hy
    have h1 := h.lt y hy
    rw [h.held y hy hb, List.getElem?_append_left (by omega)]
theorem EI.poll {c : Nat} {st : Ps} {se os wy : List By} (h : EI c st se os wy) (now : Int) : EI c (pollS st now) se os wy :=
  ⟨h.v.poll now, h.sent, fun b hb => by obtain ⟨x, hx, rfl⟩ := List.mem_map.1 hb; exact h.op x hx, by simp only [pollS, List.length_map]; exact h.ol, h.told, h.bl, h.lt, h.held, h.fr⟩
theorem EI.out {c : Nat} {st : Ps} {se os wy : List By} (h : EI c st se os wy) (now : Int) : ∀ f ∈ pollO st now, Fr se c f := by
  have hb : baseOf st.L ≤ c := Nat.le_trans (baseOf_le st.L) h.v.Ll
  have hs : se.length ≤ c := by rw [← h.sent]; exact h.v.sl
  intro f hf
  unfold pollO at hf
  split at hf
  · rw [List.mem_singleton] at hf
    exact .inr ⟨baseOf st.L, hb, hf⟩
  · unfold outL at hf
    obtain ⟨b, hb2, rfl⟩ := List.mem_map.1 hf
    have hb3 := (List.mem_filter.1 hb2).1
    obtain ⟨q, h1, h2⟩ := h.op b hb3
    have hq := (List.getElem?_eq_some_iff.1 h2).1
    refine .inl ⟨baseOf st.L, q, b.text, hb, by omega, h.v.ot b hb3, h2, ?_⟩
    unfold bodyF
    rw [h1, Int.toNat_natCast]
theorem pollO_len {st : Ps} {c : Nat} (h : PV st c) (now : Int) : (pollO st now).length ≤ 64 := by
  have := h.ol
  have := h.r2
  unfold pollO
  split
  · simp
  · have := outL_len (baseOf st.L) (dueO st.tm now) st.op; omega
theorem EI.way {c : Nat} {st : Ps} {se os wy wy' : List By} (h : EI c st se os wy) (hw : ∀ f ∈ wy', f ∈ wy ∨ Fr os c f) : EI c st se os wy' :=
  ⟨h.v, h.sent, h.op, h.ol, h.told, h.bl, h.lt, h.held, fun f hf => (hw f hf).elim (h.fr f) id⟩
theorem EI.ack {c : Nat} {st : Ps} {se os wy : List By} (h : EI c st se os wy) (u : Int) : EI c (ackS st u) se os wy :=
  ⟨h.v.ack u, h.sent, fun b hb => h.op b (List.mem_filter.1 hb).1, Nat.le_trans (ackO_len _ _) h.ol, h.told, h.bl, h.lt, h.held, h.fr⟩
theorem EI.body {c : Nat} {st : Ps} {se os wy : List By} (h : EI c st se os wy) {q : Nat} {t : By} (hq : os[q]? = some t) : EI (c + 1) (bodyS st (q : Int) t) se os wy := by
  have hql := (List.getElem?_eq_some_iff.1 hq).1
  have hv2 := h.v.body (q : Int) t
  have hmono := base_mono st.L (q : Int)
  have hnn := takeL_nn h.v.Ln (q : Int)
  obtain ⟨bo1, bo2⟩ := baseOf_ok (takeL 64 st.L (q : Int))
  have hmem : ∀ x ∈ takeL 64 st.L (q : Int), x ∈ st.L ∨ (x = (q : Int) ∧ takeB 64 st.L (q : Int) = true) := fun x hx => by
    unfold takeL at hx
    split at hx
    · rename_i hb
      rw [List.mem_append, List.mem_singleton] at hx
      exact hx.imp id fun e => ⟨e, hb⟩
    · exact .inl hx
  have hlt : ∀ x ∈ takeL 64 st.L (q : Int), x < (os.length : Int) := fun x hx => by
    rcases hmem x hx with h1 | ⟨rfl, _⟩
    · exact h.lt x h1
    · omega
  have hget : ∀ x ∈ takeL 64 st.L (q : Int), (baseOf st.L : Int) ≤ x → mget (held1 st (q : Int) t) x = os[x.toNat]? := fun x hx hb => by
    unfold held1
    by_cases hB : takeB 64 st.L (q : Int) = true
    · rw [if_pos hB, mget_mset]
      by_cases e : (q : Int) = x
      · rw [if_pos e, ← e, Int.toNat_natCast, hq]
      · rw [if_neg e]
        rcases hmem x hx with h1 | ⟨h1, _⟩
        · exact h.held x h1 hb
        · exact absurd h1.symm e
    · rw [if_neg hB]
      rcases hmem x hx with h1 | ⟨_, h1⟩
      · exact h.held x h1 hb
      · exact absurd h1 hB
  have hbl : baseOf (takeL 64 st.L (q : Int)) ≤ os.length := by
    rcases Nat.eq_zero_or_pos (baseOf (takeL 64 st.L (q : Int))) with h0 | h0
    · omega
    · have := hlt _ (bo1 (baseOf (takeL 64 st.L (q : Int)) - 1) (by omega)); omega
  have hnd := held1_nd h.v.hn (q : Int) t
  refine ⟨hv2, h.sent, h.op, h.ol, ?_, hbl, hlt, ?_, fun f hf => (h.fr f hf).mono (by omega)⟩
  · show (tellN (st.told, held1 st (q : Int) t) (baseOf st.L) (baseOf (takeL 64 st.L (q : Int)) - baseOf st.L)).1 = os.take (baseOf (takeL 64 st.L (q : Int)))
    rw [tellN_told _ _ hnd]
    dsimp only
    rw [h.told]
    generalize hN : baseOf (takeL 64 st.L (q : Int)) - baseOf st.L = N at *
    rw [show baseOf (takeL 64 st.L (q : Int)) = baseOf st.L + N by omega, List.take_add]
    congr 1
    apply List.ext_getElem?
    intro j
    rw [List.getElem?_map, List.getElem?_take]
    by_cases hj : j < N
    · rw [List.getElem?_range hj, if_pos hj, List.getElem?_drop, Option.map_some]
      have h1 := hget ((baseOf st.L + j : Nat) : Int) (bo1 (baseOf st.L + j) (by omega)) (by omega)
      rw [Int.toNat_natCast] at h1
      unfold hv
      rw [h1, List.getElem?_eq_getElem (by omega)]; rfl
    · rw [if_neg hj, List.getElem?_eq_none (by simp; omega)]; rfl
  · intro x hx hb
    have hx : x ∈ takeL 64 st.L (q : Int) := hx
    have hb : (baseOf (takeL 64 st.L (q : Int)) : Int) ≤ x := hb
    show mget (tellN (st.told, held1 st (q : Int) t) (baseOf st.L) (baseOf (takeL 64 st.L (q : Int)) - baseOf st.L)).2 x = _
    rw [tellN_get _ _ hnd, if_neg (by omega)]
    exact hget x hx (by omega)
theorem EI.take {c : Nat} {st : Ps} {se os wy : List By} (h : EI c st se os wy) {f : By} (hf : Fr os c f) (hc : c ≤ 100000) : takeE f = 0 ∧ EI (c + 1) (takeS st f) se os wy := by
  rcases hf with ⟨b, q, t, h1, h2, h3, h4, rfl⟩ | ⟨b, h1, rfl⟩
  · obtain ⟨e1, e2⟩ := take_body (st := st) (readP_body b q t (by omega) (by omega) (by omega))
    rw [e2]
    exact ⟨e1, (h.ack _).body h4⟩
  · obtain ⟨e1, e2⟩ := take_ack (st := st) (readP_ack b (by omega))
    rw [e2]
    exact ⟨e1, (h.ack _).mono (by omega)⟩
def pr {α : Type} (me : Nat) (u v : α) : List α := if me = 0 then [u, v] else [v, u]
theorem pr_me {α : Type} {me : Nat} (h : me < 2) (u v : α) : (pr me u v)[me]? = some u := by
  have : me = 0 ∨ me = 1 := by omega
  rcases this with rfl | rfl <;> rfl
theorem pr_ot {α : Type} {me : Nat} (h : me < 2) (u v : α) : (pr me u v)[1 - me]? = some v := by
  have : me = 0 ∨ me = 1 := by omega
  rcases this with rfl | rfl <;> rfl
theorem pr_len {α : Type} (me : Nat) (u v : α) : (pr me u v).length = 2 := by unfold pr; split <;> rfl
theorem pr_setMe {me : Nat} (h : me < 2) (u v w : Value) : SetV (pr me u v) me w (pr me w v) := by
  have : me = 0 ∨ me = 1 := by omega
  rcases this with rfl | rfl
  · exact ⟨rfl, by rw [pr_len]; decide⟩
  · exact ⟨rfl, by rw [pr_len]; decide⟩
theorem pr_setOt {me : Nat} (h : me < 2) (u v w : Value) : SetV (pr me u v) (1 - me) w (pr me u w) := by
  have : me = 0 ∨ me = 1 := by omega
  rcases this with rfl | rfl
  · exact ⟨rfl, by rw [pr_len]; decide⟩
  · exact ⟨rfl, by rw [pr_len]; decide⟩
theorem pr_swap {α : Type} {me : Nat} (h : me < 2) (u v : α) : pr me u v = pr (1 - me) v u := by
  have : me = 0 ∨ me = 1 := by omega
  rcases this with rfl | rfl <;> rfl
structure En where
  p : Nat
  st : Ps
  se : List By
  Ss : SV
  wy : List By
  Sw : SV
/-- Both ends, behind k deeds. -/
structure Both (k : Nat) (a b : En) : Prop where
  ea : EI k a.st a.se b.se a.wy
  eb : EI k b.st b.se a.se b.wy
  wa : a.wy.length ≤ 64 * k
  wb : b.wy.length ≤ 64 * k
theorem Both.swap {k : Nat} {a b : En} (h : Both k a b) : Both k b a := ⟨h.eb, h.ea, h.wb, h.wa⟩
theorem Both.next {k : Nat} {a b : En} (h : Both k a b) : Both (k + 1) a b := ⟨h.ea.mono (by omega), h.eb.mono (by omega), by have := h.wa; omega, by have := h.wb; omega⟩
theorem cut_wy (wy : List By) (i : Nat) : ∀ f ∈ wy.take i ++ wy.drop (i + 1), f ∈ wy := fun f hf => by
  rcases List.mem_append.1 hf with h | h
  · exact List.mem_of_mem_take h
  · exact List.mem_of_mem_drop h
end Go.Proofs
