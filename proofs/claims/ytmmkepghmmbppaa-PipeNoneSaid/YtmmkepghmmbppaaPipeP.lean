/- A pipe, in plain Lean. -/
import Derived.Test.YtmmkepghmmbppaaRecF
import Derived.Test.YtmmkepghmmbppaaRead
import Derived.Test.YtmmkepghmmbppaaTim2
set_option autoImplicit false
namespace Go.Proofs
open Go.SL
abbrev By := List UInt8
structure Bd where
  seq : Int
  text : By
  fresh : Bool
structure Ps where
  room : Nat
  sent : Nat
  op : List Bd
  tm : List Op3
  L : List Int
  held : List (Int × By)
  told : List By
  owe : Bool
def num (s : By) : Int := if s.length = 4 then (be s : Int) else -1
def partsP : List By → Int × Int × By × Int
  | [a, b, c] => if num b < 0 ∨ (num a < 0 ∧ a ++ c ≠ []) then (0, 0, [], 3) else (num a, num b, c, 0)
  | _ => (0, 0, [], 3)
def readP (s : By) : Int × Int × By × Int :=
  if (recNext s).2.2 ≠ 0 then (0, 0, [], (recNext s).2.2)
  else if (recNext s).2.1 ≠ s.length ∨ readE (recNext s).1 ≠ 0 then (0, 0, [], 3)
  else partsP (readL (recNext s).1)
theorem partsP_ok {l : List By} (h : l.length ≠ 3) : partsP l = (0, 0, [], 3) := by
  unfold partsP
  split
  · exact absurd rfl h
  · rfl
theorem num_rng (s : By) : -1 ≤ num s ∧ num s < 4294967296 := by
  unfold num
  split
  · rename_i h
    have := be_lt4 s 4 (by omega)
    exact ⟨by omega, by have h2 : (256 : Nat) ^ 4 = 4294967296 := by decide
                        rw [h2] at this; omega⟩
  · omega
theorem readP_rng (s : By) : -1 ≤ (readP s).1 ∧ (readP s).1 < 4294967296 ∧ 0 ≤ (readP s).2.1 ∧ (readP s).2.1 < 4294967296 := by
  unfold readP
  split
  · simp
  · split
    · simp
    · unfold partsP
      split
      · rename_i a b c _
        have h1 := num_rng a
        have h2 := num_rng b
        split
        · simp
        · rename_i h3
          simp only [not_or] at h3
          exact ⟨h1.1, h1.2, by simp only; omega, h2.2⟩
      · simp
def frm (base : Nat) (sq s : By) : By := frame (texts [sq, four base, s])
def new (room : Nat) : Ps := ⟨room, 0, [], [], [], [], [], false⟩
def sendE (st : Ps) (s : By) : Int := if 4000 < s.length then 2 else if st.room ≤ st.op.length then 7 else 0
def sendS (st : Ps) (s : By) : Ps := if sendE st s = 0 then { st with op := st.op ++ [⟨st.sent, s, true⟩], sent := st.sent + 1 } else st
def isDue (due : List Int) (b : Bd) : Bool := b.fresh || decide (b.seq ∈ due)
def bodyF (base : Nat) (b : Bd) : By := frm base (four b.seq.toNat) b.text
def outL (base : Nat) (due : List Int) (l : List Bd) : List By := (l.filter (isDue due)).map (bodyF base)
def pollO (st : Ps) (now : Int) : List By := if outL (baseOf st.L) (dueO st.tm now) st.op = [] ∧ st.owe = true then [frm (baseOf st.L) [] []] else outL (baseOf st.L) (dueO st.tm now) st.op
def pollT (room : Nat) (now : Int) (tm : List Op3) (l : List Bd) : List Op3 := l.foldl (fun t b => if b.fresh = true then sentL room t b.seq now else t) tm
def clr (b : Bd) : Bd := { b with fresh := false }
def pollS (st : Ps) (now : Int) : Ps := { st with tm := pollT st.room now (dueL st.tm now) st.op, op := st.op.map clr, owe := false }
def hv (h : List (Int × By)) (i : Int) : By := (mget h i).getD []
def tellN (s : List By × List (Int × By)) (b : Nat) : Nat → List By × List (Int × By)
  | 0 => s
  | n + 1 => ((tellN s b n).1 ++ [hv (tellN s b n).2 ((b + n : Nat) : Int)], mdel (tellN s b n).2 ((b + n : Nat) : Int))
def ackO (l : List Bd) (u : Int) : List Bd := l.filter fun b => decide (¬ b.seq < u)
def ackS (st : Ps) (u : Int) : Ps := { st with tm := ackL st.tm u, op := ackO st.op u }
def held1 (st : Ps) (q : Int) (t : By) : List (Int × By) := if takeB 64 st.L q = true then mset st.held q t else st.held
def bodyX (st : Ps) (q : Int) (t : By) : List By × List (Int × By) := tellN (st.told, held1 st q t) (baseOf st.L) (baseOf (takeL 64 st.L q) - baseOf st.L)
def bodyS (st : Ps) (q : Int) (t : By) : Ps := { st with L := takeL 64 st.L q, held := (bodyX st q t).2, told := (bodyX st q t).1, owe := true }
def takeS (st : Ps) (s : By) : Ps := if (readP s).2.2.2 ≠ 0 then st else if (readP s).1 < 0 then ackS st (readP s).2.1 else bodyS (ackS st (readP s).2.1) (readP s).1 (readP s).2.2.1
structure PV (st : Ps) (c : Nat) : Prop where
  r1 : 1 ≤ st.room
  r2 : st.room ≤ 64
  Ln : ∀ x ∈ st.L, 0 ≤ x
  Ll : st.L.length ≤ c
  tl : st.tm.length ≤ 64
  told : st.told.length = baseOf st.L
  ol : st.op.length ≤ st.room
  sl : st.sent ≤ c
  os : ∀ b ∈ st.op, 0 ≤ b.seq ∧ b.seq < (st.sent : Int)
  ot : ∀ b ∈ st.op, b.text.length ≤ 4000
  hn : (st.held.map (·.1)).Nodup
theorem PV.mono {st : Ps} {c d : Nat} (h : PV st c) (hd : c ≤ d) : PV st d := ⟨h.r1, h.r2, h.Ln, Nat.le_trans h.Ll hd, h.tl, h.told, h.ol, Nat.le_trans h.sl hd, h.os, h.ot, h.hn⟩
theorem PV.new (room : Nat) (h1 : 1 ≤ room) (h2 : room ≤ 64) : PV (new room) 0 := ⟨h1, h2, by simp [Go.Proofs.new], by simp [Go.Proofs.new], by simp [Go.Proofs.new], (baseOf_eq [] 0 (by simp) (by simp)).symm ▸ rfl, by simp [Go.Proofs.new], by simp [Go.Proofs.new], by simp [Go.Proofs.new], by simp [Go.Proofs.new], by simp [Go.Proofs.new]⟩
theorem PV.send {st : Ps} {c : Nat} (h : PV st c) (s : By) : PV (sendS st s) (c + 1) := by
  unfold sendS
  by_cases e : sendE st s = 0
  · rw [if_pos e]
    have e2 := e
    unfold sendE at e2
    split at e2
    · cases e2
    · rename_i h1
      split at e2
      · cases e2
      · rename_i h2
        refine ⟨h.r1, h.r2, h.Ln, Nat.le_succ_of_le h.Ll, h.tl, h.told, by simp; omega, by have := h.sl; simp; omega, fun b hb => ?_, fun b hb => ?_, h.hn⟩
        · rcases List.mem_append.1 hb with hb | hb
          · have := h.os b hb; simp only; omega
          · rw [List.mem_singleton] at hb; subst hb; simp only; omega
        · rcases List.mem_append.1 hb with hb | hb
          · exact h.ot b hb
          · rw [List.mem_singleton] at hb; subst hb; simp only; omega
  · rw [if_neg e]; exact h.mono (by omega)
theorem sentL_len (room : Nat) (l : List Op3) (s now : Int) (hr : room ≤ 64) (hl : l.length ≤ 64) : (sentL room l s now).length ≤ 64 := by
  unfold sentL
  split
  · rename_i h
    simp only [sentB, Bool.and_eq_true, decide_eq_true_eq] at h
    rw [insT_len]; omega
  · exact hl
theorem pollT_len (room : Nat) (now : Int) (hr : room ≤ 64) : ∀ (l : List Bd) (tm : List Op3), tm.length ≤ 64 → (pollT room now tm l).length ≤ 64
  | [], tm, h => h
  | b :: l, tm, h => by
    refine pollT_len room now hr l _ ?_
    dsimp only
    split
    · exact sentL_len room tm b.seq now hr h
    · exact h
theorem dueL_len (l : List Op3) (now : Int) : (dueL l now).length = l.length := by unfold dueL; split <;> simp
theorem dueO_len (l : List Op3) (now : Int) : (dueO l now).length ≤ l.length := by
  unfold dueO; split
  · rw [List.length_map]; exact List.length_filter_le _ _
  · simp
theorem ackL_len (l : List Op3) (u : Int) : (ackL l u).length ≤ l.length := List.length_filter_le _ _
theorem ackO_len (l : List Bd) (u : Int) : (ackO l u).length ≤ l.length := List.length_filter_le _ _
theorem PV.poll {st : Ps} {c : Nat} (h : PV st c) (now : Int) : PV (pollS st now) c :=
  ⟨h.r1, h.r2, h.Ln, h.Ll, pollT_len _ _ h.r2 _ _ (by rw [dueL_len]; exact h.tl), h.told, by simp only [pollS, List.length_map]; exact h.ol, h.sl,
    fun b hb => by obtain ⟨x, hx, rfl⟩ := List.mem_map.1 hb; exact h.os x hx, fun b hb => by obtain ⟨x, hx, rfl⟩ := List.mem_map.1 hb; exact h.ot x hx, h.hn⟩
theorem PV.ack {st : Ps} {c : Nat} (h : PV st c) (u : Int) : PV (ackS st u) c :=
  ⟨h.r1, h.r2, h.Ln, h.Ll, Nat.le_trans (ackL_len _ _) h.tl, h.told, Nat.le_trans (ackO_len _ _) h.ol, h.sl, fun b hb => h.os b (List.mem_filter.1 hb).1, fun b hb => h.ot b (List.mem_filter.1 hb).1, h.hn⟩
theorem tellN_len (s : List By × List (Int × By)) (b : Nat) : ∀ n, (tellN s b n).1.length = s.1.length + n
  | 0 => rfl
  | n + 1 => by simp only [tellN, List.length_append, List.length_singleton, tellN_len s b n]; omega
theorem tellN_nd (s : List By × List (Int × By)) (b : Nat) (h : (s.2.map (·.1)).Nodup) : ∀ n, ((tellN s b n).2.map (·.1)).Nodup
  | 0 => h
  | n + 1 => mdel_nodup _ _ (tellN_nd s b h n)
theorem tellN_get (s : List By × List (Int × By)) (b : Nat) (h : (s.2.map (·.1)).Nodup) (k : Int) : ∀ n, mget (tellN s b n).2 k = if (b : Int) ≤ k ∧ k < (b : Int) + n then none else mget s.2 k
  | 0 => by rw [if_neg (by omega)]; rfl
  | n + 1 => by
    simp only [tellN]
    rw [mget_mdel _ _ _ (tellN_nd s b h n), tellN_get s b h k n]
    by_cases e : ((b + n : Nat) : Int) = k
    · rw [if_pos e, if_pos (by omega)]
    · rw [if_neg e]
      by_cases e2 : (b : Int) ≤ k ∧ k < (b : Int) + n
      · rw [if_pos e2, if_pos (by omega)]
      · rw [if_neg e2, if_neg (by omega)]
theorem tellN_told (s : List By × List (Int × By)) (b : Nat) (h : (s.2.map (·.1)).Nodup) : ∀ n, (tellN s b n).1 = s.1 ++ (List.range n).map fun j => hv s.2 ((b + j : Nat) : Int)
  | 0 => by simp [tellN]
  | n + 1 => by
    simp only [tellN]
    rw [tellN_told s b h n, List.range_succ, List.map_append, List.append_assoc]
    have : hv (tellN s b n).2 ((b + n : Nat) : Int) = hv s.2 ((b + n : Nat) : Int) := by
      unfold hv; rw [tellN_get s b h, if_neg (by omega)]
    rw [this]; rfl
theorem base_mono (L : List Int) (z : Int) : baseOf L ≤ baseOf (takeL 64 L z) := by
  unfold takeL
  split
  · obtain ⟨h1, h2⟩ := baseOf_ok L
    obtain ⟨h3, h4⟩ := baseOf_ok (L ++ [z])
    rcases Nat.lt_or_ge (baseOf (L ++ [z])) (baseOf L) with h | h
    · exact absurd (by simp [h1 _ h]) h4
    · exact h
  · exact Nat.le_refl _
theorem takeL_len1 (L : List Int) (z : Int) : (takeL 64 L z).length ≤ L.length + 1 := by
  unfold takeL; split <;> simp
theorem takeL_nn {L : List Int} (h : ∀ x ∈ L, 0 ≤ x) (z : Int) : ∀ x ∈ takeL 64 L z, 0 ≤ x := by
  intro x hx
  unfold takeL at hx
  split at hx
  · rename_i hb
    simp only [takeB, decide_eq_true_eq] at hb
    rcases List.mem_append.1 hx with hx | hx
    · exact h x hx
    · rw [List.mem_singleton] at hx; rw [hx]; exact hb.2.1
  · exact h x hx
theorem held1_nd {st : Ps} (h : (st.held.map (·.1)).Nodup) (q : Int) (t : By) : ((held1 st q t).map (·.1)).Nodup := by
  unfold held1; split
  · exact mset_nodup _ _ _ h
  · exact h
theorem PV.body {st : Ps} {c : Nat} (h : PV st c) (q : Int) (t : By) : PV (bodyS st q t) (c + 1) := by
  refine ⟨h.r1, h.r2, takeL_nn h.Ln q, ?_, h.tl, ?_, h.ol, Nat.le_succ_of_le h.sl, h.os, h.ot, tellN_nd _ _ (held1_nd h.hn q t) _⟩
  · have := takeL_len1 st.L q
    have := h.Ll
    simp only [bodyS]; omega
  · have := base_mono st.L q
    have h2 := h.told
    simp only [bodyS, bodyX, tellN_len]
    omega
theorem PV.take {st : Ps} {c : Nat} (h : PV st c) (s : By) : PV (takeS st s) (c + 1) := by
  unfold takeS
  split
  · exact h.mono (by omega)
  · split
    · exact (h.ack _).mono (by omega)
    · exact (h.ack _).body _ _
end Go.Proofs
