/- Part 3 of the texts below the row: Sl2. -/
import Derived.Deep.LoopGhost
import Derived.OrdersHeld
import Derived.Test.YtdggicfcpcjjlaaGreatDoorM1
import Derived.Test.YtdggicfcpcjjlaaGreatDoorM2
/- The judgement of the symbolic walk: what is known of slots (an environment) and of the heap (chunks), through code, blocks, loops, calls. -/
set_option autoImplicit false
namespace Go.SL
abbrev Env := List (Nat × Value)
def Env.get : Env → Nat → Option Value
 | [], _ => none
 | (k, v) :: r, t => bif Nat.beq k t then some v else Env.get r t
def Env.ev (ρ : Env) : Operand → Option Value
 | .tmp t => ρ.get t
 | .const v => some v
 | .global g => some (.pointer (some ⟨g, 0, none⟩))
 | .func f => some (.func (.func f) #[] #[])
def Env.evs (ρ : Env) : List Operand → Option (List Value)
 | [] => some []
 | x :: r => match ρ.ev x, Env.evs ρ r with
  | some v, some vs => some (v :: vs)
  | _, _ => none
def Env.put (ρ : Env) : Option Tmp → Value → Env
 | none, _ => ρ
 | some d, v => (d, v) :: ρ
def okDst (n : Nat) : Option Tmp → Bool
 | none => true
 | some d => Nat.blt d n
structure Agrees (a : Act) (n : Nat) (ρ : Env) : Prop where
 defers : a.defers = []
 size : a.tmps.size = n
 get : ∀ t v, ρ.get t = some v → t < n ∧ a.tmps.getD t undef = v
theorem Agrees.ev {a : Act} {n : Nat} {ρ : Env} (h : Agrees a n ρ) {x : Operand} {v : Value} (hx : ρ.ev x = some v) : a.eval x = v := by
 cases x <;> simp only [Env.ev, Option.some.injEq] at hx
 case tmp t => exact (h.get t v hx).2
 all_goals (subst hx; rfl)
theorem Agrees.evs {a : Act} {n : Nat} {ρ : Env} (h : Agrees a n ρ) : ∀ {xs : List Operand} {vs : List Value}, ρ.evs xs = some vs → xs.map a.eval = vs
 | [], vs, hx => by simp only [Env.evs, Option.some.injEq] at hx; subst hx; rfl
 | x :: r, vs, hx => by
  simp only [Env.evs] at hx
  split at hx
  ·rename_i v vs' h1 h2
   simp only [Option.some.injEq] at hx
   subst hx
   simp [h.ev h1, Agrees.evs h h2]
  ·cases hx
theorem Agrees.put {a : Act} {n : Nat} {ρ : Env} (h : Agrees a n ρ) (d : Option Tmp) (v : Value) (hd : okDst n d = true) : Agrees (a.put d v) n (ρ.put d v) := by
 cases d with
 | none => exact h
 | some d =>
  simp only [okDst, Nat.blt_eq] at hd
  refine ⟨h.defers, by simp [Act.put, h.size], fun t u hu => ?_⟩
  simp only [Env.put, Env.get] at hu
  cases e : Nat.beq d t with
  | true =>
   have e' := Nat.eq_of_beq_eq_true e
   subst e'
   rw [e] at hu
   simp only [cond_true, Option.some.injEq] at hu
   subst hu
   exact ⟨hd, by simp [Act.put, h.size, hd]⟩
  | false =>
   have e' := Nat.ne_of_beq_eq_false e
   rw [e] at hu
   simp only [cond_false] at hu
   obtain ⟨h1, h2⟩ := h.get t u hu
   refine ⟨h1, ?_⟩
   rw [← h2]
   simp [Act.put, Array.getElem?_setIfInBounds_ne e']
def envSub : Env → Env → Prop
 | [], _ => True
 | (t, v) :: r, ρ => ρ.get t = some v ∧ envSub r ρ
theorem envSub.get {ρ : Env} : ∀ {e : Env}, envSub e ρ → ∀ t v, e.get t = some v → ρ.get t = some v
 | [], _, t, v, h => by simp [Env.get] at h
 | (k, u) :: r, hs, t, v, h => by
  simp only [Env.get] at h
  cases e : Nat.beq k t with
  | true =>
   have e' := Nat.eq_of_beq_eq_true e
   subst e'
   rw [e] at h
   simp only [cond_true, Option.some.injEq] at h
   subst h
   exact hs.1
  | false => rw [e] at h; exact envSub.get hs.2 t v h
theorem Agrees.sub {a : Act} {n : Nat} {ρ e : Env} (h : Agrees a n ρ) (hs : envSub e ρ) : Agrees a n e :=
 ⟨h.defers, h.size, fun t v hv => h.get t v (hs.get t v hv)⟩
abbrev Post := Exit → Env → List HProp → Prop
def lift (E : World) (n : Nat) (Q : Post) : Exit → Act → World → Prop := fun e a w => ∃ ρ L, Q e ρ L ∧ Agrees a n ρ ∧ Sat E w L
def J (P : Program) (E : World) (n : Nat) (c : Code) (Q : Post) (ρ : Env) (L : List HProp) : Prop :=
 ∀ a w, Agrees a n ρ → Sat E w L → c.wp P (lift E n Q) a w
def seqQ (P : Program) (E : World) (n : Nat) (c : Code) (Q : Post) : Post
 | .normal, ρ, L => J P E n c Q ρ L
 | e, ρ, L => Q e ρ L
def blockQ (id : Nat) (Q : Post) : Post
 | .exit j, ρ, L => bif Nat.beq j id then Q .normal ρ L else Q (.exit j) ρ L
 | e, ρ, L => Q e ρ L
def loopQ {ι : Type} (I : ι → Prop) (env : ι → Env) (res : ι → List HProp) (μ : ι → Nat) (i : ι) (Q : Post) : Post
 | .normal, ρ, L => ∃ i', I i' ∧ μ i' < μ i ∧ envSub (env i') ρ ∧ Ent L (res i')
 | e, ρ, L => Q e ρ L
section
variable {P : Program} {E : World} {n : Nat} {Q : Post} {ρ : Env} {L : List HProp} {c d : Code}
theorem J.mono {Q' : Post} (h : J P E n c Q ρ L) (hq : ∀ e ρ L, Q e ρ L → Q' e ρ L) : J P E n c Q' ρ L := fun a w ha hs =>
 wp_mono (h a w ha hs) fun _ _ _ ⟨ρ', L', hQ, r⟩ => ⟨ρ', L', hq _ _ _ hQ, r⟩
theorem J.ent {L' : List HProp} (he : Ent L L') (h : J P E n c Q ρ L') : J P E n c Q ρ L := fun a w ha hs => h a w ha (he E w hs)
theorem J.sub {e : Env} (he : envSub e ρ) (h : J P E n c Q e L) : J P E n c Q ρ L := fun a w ha hs => h a w (ha.sub he) hs
theorem J.have {p : Prop} (hp : ∀ w, Sat E w L → p) (h : p → J P E n c Q ρ L) : J P E n c Q ρ L := fun a w ha hs => h (hp w hs) a w ha hs
theorem J.open {ι : Type} {M : ι → List HProp} (hp : ∀ w, Sat E w L → ∃ i, Sat E w (M i)) (h : ∀ i, J P E n c Q ρ (M i)) : J P E n c Q ρ L := fun a w ha hs =>
 let ⟨i, hi⟩ := hp w hs; h i a w ha hi
theorem J.ex {α : Type} {f : α → HProp} (h : ∀ x, J P E n c Q ρ (f x :: L)) : J P E n c Q ρ (hex f :: L) := J.open (fun _ hs => hs.ex) h
theorem J.fact {p : Prop} (h : p → J P E n c Q ρ L) : J P E n c Q ρ (pur p :: L) := fun a w ha hs => h hs.fact.1 a w ha hs.fact.2
theorem J.star {A B : HProp} (h : J P E n c Q ρ (A :: B :: L)) : J P E n c Q ρ (SL.star A B :: L) := fun a w ha hs => h a w ha hs.star
theorem J.pick (idx : List Nat) (hi : okIdx L.length idx = true) (h : J P E n c Q ρ (SL.pick idx L)) : J P E n c Q ρ L := h.ent (Ent.pick idx L hi)
theorem J_skip (h : Q .normal ρ L) : J P E n .skip Q ρ L := fun _ _ ha hs => wp_skip ⟨ρ, L, h, ha, hs⟩
theorem J_exit {id : Nat} (h : Q (.exit id) ρ L) : J P E n (.exit id) Q ρ L := fun _ _ ha hs => wp_exit ⟨ρ, L, h, ha, hs⟩
theorem J_ret (h : Q .ret ρ L) : J P E n .ret Q ρ L := fun _ _ ha hs => wp_ret ⟨ρ, L, h, ha, hs⟩
theorem J_seq (h : J P E n c (seqQ P E n d Q) ρ L) : J P E n (.seq c d) Q ρ L := fun a w ha hs =>
 wp_seq (wp_mono (h a w ha hs) fun e a' w' ⟨ρ', L', hQ, ha', hs'⟩ => by
  cases e with
  | normal => exact hQ a' w' ha' hs'
  | _ => exact ⟨ρ', L', hQ, ha', hs'⟩)
theorem J_block {id : Nat} (h : J P E n c (blockQ id Q) ρ L) : J P E n (.block id c) Q ρ L := fun a w ha hs =>
 wp_block (wp_mono (h a w ha hs) fun e a' w' ⟨ρ', L', hQ, ha', hs'⟩ => by
  cases e with
  | exit j =>
   simp only [Exit.inBlock]
   by_cases e : j = id
   ·subst e; simp only [blockQ, Nat.beq_refl, cond_true] at hQ; simp only [if_true]; exact ⟨ρ', L', hQ, ha', hs'⟩
   ·have : Nat.beq j id = false := by cases hb : Nat.beq j id with | false => rfl | true => exact absurd (Nat.eq_of_beq_eq_true hb) e
    simp only [blockQ, this, cond_false] at hQ
    simp only [e, if_false]; exact ⟨ρ', L', hQ, ha', hs'⟩
  | _ => exact ⟨ρ', L', hQ, ha', hs'⟩)
theorem seqQ_normal (h : J P E n c Q ρ L) : seqQ P E n c Q .normal ρ L := h
theorem seqQ_exit {id : Nat} (h : Q (.exit id) ρ L) : seqQ P E n c Q (.exit id) ρ L := h
theorem seqQ_ret (h : Q .ret ρ L) : seqQ P E n c Q .ret ρ L := h
theorem blockQ_normal {id : Nat} (h : Q .normal ρ L) : blockQ id Q .normal ρ L := h
theorem blockQ_ret {id : Nat} (h : Q .ret ρ L) : blockQ id Q .ret ρ L := h
theorem blockQ_hit {id : Nat} (h : Q .normal ρ L) : blockQ id Q (.exit id) ρ L := by simp only [blockQ, Nat.beq_refl, cond_true]; exact h
theorem blockQ_miss {id j : Nat} (hj : Nat.beq j id = false) (h : Q (.exit j) ρ L) : blockQ id Q (.exit j) ρ L := by simp only [blockQ, hj, cond_false]; exact h
theorem J_cond {x : Operand} {b : Bool} (hx : ρ.ev x = some (.bool b)) (h1 : b = true → J P E n c Q ρ L) (h2 : b = false → J P E n d Q ρ L) : J P E n (.cond x c d) Q ρ L := fun a w ha hs =>
 wp_cond_split (ha.ev hx) (fun h => h1 h a w ha hs) (fun h => h2 h a w ha hs)
theorem J_condD {x : Operand} {p : Prop} {dec : Decidable p} (hx : ρ.ev x = some (.bool (@decide p dec))) (h1 : p → J P E n c Q ρ L) (h2 : ¬ p → J P E n d Q ρ L) : J P E n (.cond x c d) Q ρ L :=
 J_cond hx (fun h => h1 (of_decide_eq_true h)) (fun h => h2 (of_decide_eq_false h))
theorem J_condT {x : Operand} (hx : ρ.ev x = some (.bool true)) (h1 : J P E n c Q ρ L) : J P E n (.cond x c d) Q ρ L := J_cond hx (fun _ => h1) (fun h => by cases h)
theorem J_condF {x : Operand} (hx : ρ.ev x = some (.bool false)) (h1 : J P E n d Q ρ L) : J P E n (.cond x c d) Q ρ L := J_cond hx (fun h => by cases h) (fun _ => h1)
/-- A loop: what holds at its head, by a ghost i. -/
theorem J_loop {ι : Type} (I : ι → Prop) (env : ι → Env) (res : ι → List HProp) (μ : ι → Nat) (i₀ : ι) (h0 : I i₀) (he : envSub (env i₀) ρ) (hL : Ent L (res i₀))
 (hb : ∀ i, I i → J P E n c (loopQ I env res μ i Q) (env i) (res i)) : J P E n (.loop c) Q ρ L := fun a w ha hs => by
 refine wp_loop_ghost (fun m a w => ∃ i, μ i = m ∧ I i ∧ Agrees a n (env i) ∧ Sat E w (res i)) (μ i₀) ⟨i₀, rfl, h0, ha.sub he, hL E w hs⟩ ?_
 rintro m a w ⟨i, rfl, hI, ha, hs⟩
 refine wp_mono (hb i hI a w ha hs) fun e a' w' ⟨ρ', L', hQ, ha', hs'⟩ => ?_
 cases e with
 | normal =>
  obtain ⟨i', h1, h2, h3, h4⟩ := hQ
  exact ⟨μ i', h2, i', rfl, h1, ha'.sub h3, h4 E w' hs'⟩
 | _ => exact ⟨ρ', L', hQ, ha', hs'⟩
theorem loopQ_exit {ι : Type} {I : ι → Prop} {env : ι → Env} {res : ι → List HProp} {μ : ι → Nat} {i : ι} {id : Nat} (h : Q (.exit id) ρ L) : loopQ I env res μ i Q (.exit id) ρ L := h
theorem loopQ_ret {ι : Type} {I : ι → Prop} {env : ι → Env} {res : ι → List HProp} {μ : ι → Nat} {i : ι} (h : Q .ret ρ L) : loopQ I env res μ i Q .ret ρ L := h
theorem loopQ_normal {ι : Type} {I : ι → Prop} {env : ι → Env} {res : ι → List HProp} {μ : ι → Nat} {i : ι} (i' : ι) (h1 : I i') (h2 : μ i' < μ i) (h3 : envSub (env i') ρ) (h4 : Ent L (res i')) :
 loopQ I env res μ i Q .normal ρ L := ⟨i', h1, h2, h3, h4⟩
end
/-! ### Operations -/
/-- An operation that hands back v and leaves the world as it is. -/
def QOp (P : Program) (E : World) (n : Nat) (o : Oper) (ρ : Env) (L : List HProp) (v : Value) : Prop :=
 ∀ a w, Agrees a n ρ → Sat E w L → (execOp a.eval o).run P w = .ok (.value v) w
/-- Any operation: what it hands back, and the chunks behind it. -/
def JOp (P : Program) (E : World) (n : Nat) (o : Oper) (K : Value → List HProp → Prop) (ρ : Env) (L : List HProp) : Prop :=
 ∀ a w, Agrees a n ρ → Sat E w L → ∀ (next : Act → World → Prop) (Q : Exit → Act → World → Prop), (∀ v L' w', K v L' → Sat E w' L' → next (a.put o.dst v) w') → o.wp P a w next Q
def JL (P : Program) (E : World) (n : Nat) (all ops : List Oper) (Q : Post) (ρ : Env) (L : List HProp) : Prop :=
 ∀ a w, Agrees a n ρ → Sat E w L → wpList P all.toArray (lift E n Q) ops a w
section
variable {P : Program} {E : World} {n : Nat} {Q : Post} {ρ : Env} {L : List HProp} {o : Oper} {all rest : List Oper}
theorem QOp.jop {v : Value} {K : Value → List HProp → Prop} (h : QOp P E n o ρ L v) (hk : K v L) : JOp P E n o K ρ L := fun a w ha hs next Q hn => by
 unfold Oper.wp
 rw [h a w ha hs]
 exact hn v L w hk hs
theorem J_region {id : Nat} {l : List Oper} (h : JL P E n l l Q ρ L) : J P E n (.region id l.toArray false) Q ρ L := fun a w ha hs => wp_region_lit (h a w ha hs)
theorem JL_nil (h : Q .normal ρ L) : JL P E n all [] Q ρ L := fun _ _ ha hs => wpList_nil ⟨ρ, L, h, ha, hs⟩
theorem JL.ent {ops : List Oper} {L' : List HProp} (he : Ent L L') (h : JL P E n all ops Q ρ L') : JL P E n all ops Q ρ L := fun a w ha hs => h a w ha (he E w hs)
theorem JL.pick {ops : List Oper} (idx : List Nat) (hi : okIdx L.length idx = true) (h : JL P E n all ops Q ρ (SL.pick idx L)) : JL P E n all ops Q ρ L := h.ent (Ent.pick idx L hi)
theorem JL.open {ops : List Oper} {ι : Type} {M : ι → List HProp} (hp : ∀ w, Sat E w L → ∃ i, Sat E w (M i)) (h : ∀ i, JL P E n all ops Q ρ (M i)) : JL P E n all ops Q ρ L := fun a w ha hs =>
 let ⟨i, hi⟩ := hp w hs; h i a w ha hi
theorem JL.have {ops : List Oper} {p : Prop} (hp : ∀ w, Sat E w L → p) (h : p → JL P E n all ops Q ρ L) : JL P E n all ops Q ρ L := fun a w ha hs => h (hp w hs) a w ha hs
theorem JL.ex {ops : List Oper} {α : Type} {f : α → HProp} (h : ∀ x, JL P E n all ops Q ρ (f x :: L)) : JL P E n all ops Q ρ (hex f :: L) := JL.open (fun _ hs => hs.ex) h
theorem JL.fact {ops : List Oper} {p : Prop} (h : p → JL P E n all ops Q ρ L) : JL P E n all ops Q ρ (pur p :: L) := fun a w ha hs => h hs.fact.1 a w ha hs.fact.2
theorem JL.star {ops : List Oper} {A B : HProp} (h : JL P E n all ops Q ρ (A :: B :: L)) : JL P E n all ops Q ρ (SL.star A B :: L) := fun a w ha hs => h a w ha hs.star
theorem JL_o (hd : okDst n o.dst = true) (hg : o.guard = none) (h : JOp P E n o (fun v L' => JL P E n all rest Q (ρ.put o.dst v) L') ρ L) : JL P E n all (o :: rest) Q ρ L := fun a w ha hs =>
 wpList_plain hg fun _ hK => h a w ha hs _ _ fun _ _ w' hk hs' => hK _ _ (hk _ w' (ha.put _ _ hd) hs')
/-- What a guard reads. -/
def gbOf : Value → Option Bool
 | .bool b => some b
 | _ => none
theorem yielded_val {a : Act} {g : Nat} {d : Tmp} {u : Value} {ops : Array Oper} (ha : Agrees a n ρ) (hd : (ops[g]?).bind (·.dst) = some d) (hv : ρ.get d = some u) : yielded ops a.tmps g = gbOf u := by
 obtain ⟨h1, h2⟩ := ha.get d _ hv
 unfold yielded
 rw [hd]
 have h3 : d < a.tmps.size := by rw [ha.size]; exact h1
 simp only [Option.bind_some, Array.getElem?_eq_getElem h3]
 have : a.tmps[d] = u := by rw [← h2]; simp [Array.getD, h3]
 rw [this]
 cases u <;> rfl
theorem yielded_of {a : Act} {g : Nat} {d : Tmp} {b : Bool} {ops : Array Oper} (ha : Agrees a n ρ) (hd : (ops[g]?).bind (·.dst) = some d) (hv : ρ.get d = some (.bool b)) : yielded ops a.tmps g = some b := yielded_val ha hd hv
/-- A guarded operation whose guard is met. -/
theorem JL_oy {g : Nat} {d : Tmp} {b : Bool} (hd : okDst n o.dst = true) (hg : o.guard = some (g, b)) (hgd : (all.toArray[g]?).bind (·.dst) = some d) (hv : ρ.get d = some (.bool b))
 (h : JOp P E n o (fun v L' => JL P E n all rest Q (ρ.put o.dst v) L') ρ L) : JL P E n all (o :: rest) Q ρ L := fun a w ha hs =>
 wpList_step fun K hK => by
  have : Region.wanted o (yielded all.toArray a.tmps) = true := by simp [Region.wanted, hg, yielded_of ha hgd hv]
  rw [if_pos this]
  exact h a w ha hs _ _ fun v L' w' hk hs' => hK _ _ (hk _ w' (ha.put _ _ hd) hs')
/-- .. that is not met. -/
theorem JL_n {g : Nat} {d : Tmp} {b : Bool} (hd : okDst n o.dst = true) (hg : o.guard = some (g, b)) (hgd : (all.toArray[g]?).bind (·.dst) = some d) {u : Value} (hv : ρ.get d = some u) (hu : gbOf u ≠ some b)
 (h : JL P E n all rest Q (ρ.put o.dst undef) L) : JL P E n all (o :: rest) Q ρ L := fun a w ha hs =>
 wpList_step fun K hK => by
  have : ¬ Region.wanted o (yielded all.toArray a.tmps) = true := by simp [Region.wanted, hg, yielded_val ha hgd hv, hu]
  rw [if_neg this]
  exact hK _ _ (h _ w (ha.put _ _ hd) hs)
/-- A Bool in a slot, parted. -/
theorem Agrees.refine {a : Act} {t : Nat} {b : Bool} (ha : Agrees a n ρ) (ht : ρ.get t = some (.bool b)) : Agrees a n ((t, .bool b) :: ρ) := by
 refine ⟨ha.defers, ha.size, fun s v hv => ?_⟩
 simp only [Env.get] at hv
 cases e : Nat.beq t s with
 | true => rw [e] at hv; simp only [cond_true, Option.some.injEq] at hv; subst hv; rw [← Nat.eq_of_beq_eq_true e]; exact ha.get t _ ht
 | false => rw [e] at hv; exact ha.get s v hv
theorem JL_split {ops : List Oper} (t : Nat) {b : Bool} (ht : ρ.get t = some (.bool b)) (h1 : b = true → JL P E n all ops Q ((t, .bool true) :: ρ) L) (h2 : b = false → JL P E n all ops Q ((t, .bool false) :: ρ) L) : JL P E n all ops Q ρ L := fun a w ha hs => by
 cases b with
 | true => exact h1 rfl a w (ha.refine ht) hs
 | false => exact h2 rfl a w (ha.refine ht) hs
theorem JL_splitD {ops : List Oper} (t : Nat) {p : Prop} {dec : Decidable p} (ht : ρ.get t = some (.bool (@decide p dec))) (h1 : p → JL P E n all ops Q ((t, .bool true) :: ρ) L) (h2 : ¬ p → JL P E n all ops Q ((t, .bool false) :: ρ) L) : JL P E n all ops Q ρ L :=
 JL_split t ht (fun h => h1 (of_decide_eq_true h)) (fun h => h2 (of_decide_eq_false h))
end
/-- 'wpAnyH' with the condition asked behind those operations alone that something quiet does not wait for; behind an operation it may be strengthened. -/
def wpAnyG (P : Program) (md : Region.Mode) (ops : Array Oper) (Q : Exit → Act → World → Prop) (fr : Nat → Bool) : (S : World → Prop) → Nat → Array Bool → Act → World → Prop
 | _, 0, listed, a, w => Region.ready md ops listed = [] ∧ Q .normal a w
 | S, fuel + 1, listed, a, w =>
  (Region.ready md ops listed = [] → Q .normal a w) ∧
  ∀ i ∈ Region.ready md ops listed, wpOp P ops Q i (fun a' w' => ∃ S', (fr i = true → S' w' ∧ ∀ w, S' w → S w) ∧ wpAnyG P md ops Q fr S' fuel (listed.setIfInBounds i true) a' w') a w
theorem wpAny_of_G {P : Program} {md : Region.Mode} {ops : Array Oper} {Q : Exit → Act → World → Prop} {fr : Nat → Bool} :
 ∀ (fuel : Nat) (S : World → Prop) (listed : Array Bool) (a : Act) (w : World), wpAnyG P md ops Q fr S fuel listed a w → wpAny P md ops Q fuel listed a w
 | 0, _, _, _, _, h => h
 | fuel + 1, _, _, _, _, h => ⟨h.1, fun i hi => wpOp_mono (fun a' w' ⟨S', _, h'⟩ => wpAny_of_G fuel S' _ a' w' h') (h.2 i hi)⟩
/-- What has come up: whatever it waited for has come up, too. -/
def Closed (md : Region.Mode) (ops : Array Oper) (listed : Array Bool) : Prop := ∀ (j : Nat) (o : Oper), ops[j]? = some o → listed.getD j true = true → ∀ e ∈ o.after, Region.binds md e = true → listed.getD e.on false = true
theorem Closed.start {md : Region.Mode} {ops : Array Oper} : Closed md ops (Array.replicate ops.size false) := fun j o hj h => by
 have hlt := (Array.getElem?_eq_some_iff.1 hj).1
 simp [hlt] at h
theorem Closed.list {md : Region.Mode} {ops : Array Oper} {listed : Array Bool} (h : Closed md ops listed) {i : Nat} (hi : i ∈ Region.ready md ops listed) : Closed md ops (listed.setIfInBounds i true) := fun j o hj hl e he hb => by
 obtain ⟨_, oi, hoi, hall⟩ := mem_ready.1 hi
 have key : listed.getD e.on false = true → (listed.setIfInBounds i true).getD e.on false = true := fun h0 => by
  by_cases hie : i = e.on
  ·rw [← hie] at h0 ⊢
   rcases Nat.lt_or_ge i listed.size with h' | h'
   ·simp [h']
   ·simp [Array.getElem?_eq_none h'] at h0
  ·rw [getD_set_ne false hie]; exact h0
 by_cases hij : i = j
 ·subst hij
  rw [hoi] at hj
  obtain rfl := Option.some.inj hj
  exact key (hall e he hb)
 ·rw [getD_set_ne true hij] at hl
  exact key (h j o hj hl e he hb)
/-- Does j wait for i, at one remove or more? -/
def anc (md : Region.Mode) (ops : Array Oper) (i : Nat) : Nat → Nat → Bool
 | 0, _ => false
 | f + 1, j => match ops[j]? with
  | none => false
  | some o => o.after.any fun e => Region.binds md e && (e.on == i || anc md ops i f e.on)
theorem anc_listed {md : Region.Mode} {ops : Array Oper} {listed : Array Bool} (hc : Closed md ops listed) (i : Nat) : ∀ (f j : Nat) (o : Oper), ops[j]? = some o → (∀ e ∈ o.after, Region.binds md e = true → listed.getD e.on false = true) → anc md ops i f j = true → listed.getD i false = true
 | 0, j, o, _, _, h => by simp [anc] at h
 | f + 1, j, o, hj, hall, h => by
  simp only [anc, hj, Array.any_eq_true', Bool.and_eq_true, Bool.or_eq_true, beq_iff_eq] at h
  obtain ⟨e, he, hb, h⟩ := h
  have h1 := hall e he hb
  rcases h with h | h
  ·rw [← h]; exact h1
  ·cases f with
   | zero => simp [anc] at h
   | succ f =>
    have h' := h
    simp only [anc] at h'
    split at h'
    ·cases h'
    ·rename_i o' ho'
     refine anc_listed hc i (f + 1) e.on o' ho' (fun e' he' hb' => ?_) h
     refine hc e.on o' ho' ?_ e' he' hb'
     rcases Nat.lt_or_ge e.on listed.size with h2 | h2
     ·simpa [h2] using h1
     ·simp [Array.getElem?_eq_none h2] at h1
section
variable {P : Program} {ops : Array Oper} {Q : Exit → Act → World → Prop} {md : Region.Mode} {fr : Nat → Bool}
theorem wpAnyG_first {i : Nat} {oi : Oper} {v : Value} (hi : ops[i]? = some oi) (hsel : ∀ (j : Nat) (o : Oper) cs b, ops[j]? = some o → o.op ≠ .select cs b)
 (hQ : ∀ c a w, Q (.panic c) (a.put oi.dst v) w → Q (.panic c) a w)
 (hfr : ∀ j oj, ops[j]? = some oj → fr j = false → anc md ops i ops.size j = true) :
 ∀ (fuel : Nat) (S : World → Prop) (listed : Array Bool) (a : Act) (w : World), Closed md ops listed →
  (∀ j oj, ops[j]? = some oj → j ≠ i → listed.getD j true = false → (∀ e ∈ oj.after, Region.binds md e = true → e.on ≠ i) → oi.apart ops oj = true) →
  i ∈ Region.ready md ops listed → YieldsIf P ops S oi v a → S w →
  wpAnyG P md ops Q fr S fuel (listed.setIfInBounds i true) (a.put oi.dst v) w → wpAnyG P md ops Q fr S (fuel + 1) listed a w := by
 intro fuel
 induction fuel with
 | zero =>
  intro S listed a w _ _ hr hy hS H
  refine ⟨fun h => (by rw [h] at hr; cases hr), fun j hj => ?_⟩
  by_cases hji : j = i
  ·subst hji; exact hy.wpOp hi hS ⟨S, fun _ => ⟨hS, fun _ h => h⟩, H⟩
  ·have := ready_mono hj hji
   rw [H.1] at this
   cases this
 | succ fuel ih =>
  intro S listed a w hcl hfree hr hy hS H
  refine ⟨fun h => (by rw [h] at hr; cases hr), fun j hj => ?_⟩
  by_cases hji : j = i
  ·subst hji; exact hy.wpOp hi hS ⟨S, fun _ => ⟨hS, fun _ h => h⟩, H⟩
  ·have h1 := H.2 j (ready_mono hj hji)
   obtain ⟨hjun, oj, hoj, hall⟩ := mem_ready.1 hj
   have hnot : ∀ e ∈ oj.after, Region.binds md e = true → e.on ≠ i := fun e he hb heq => by
    have h1 := hall e he hb
    have h0 := (mem_ready.1 hr).1
    rw [heq] at h1
    rcases Nat.lt_or_ge i listed.size with h' | h'
    ·simp [h'] at h0 h1; rw [h0] at h1; cases h1
    ·simp [Array.getElem?_eq_none h'] at h1
   have hfj : fr j = true := by
    cases hx : fr j with
    | true => rfl
    | false =>
     have h1 := anc_listed hcl i ops.size j oj hoj hall (hfr j oj hoj hx)
     have h0 := (mem_ready.1 hr).1
     rcases Nat.lt_or_ge i listed.size with h' | h'
     ·simp [h'] at h0 h1; rw [h0] at h1; cases h1
     ·simp [Array.getElem?_eq_none h'] at h1
   have h2 := wpOp_putIf hoj (hfree j oj hoj hji hjun hnot) (fun cs b => hsel i oi cs b hi) (fun cs b => hsel j oj cs b hoj) hQ hy h1
   have hfree' : ∀ k ok, ops[k]? = some ok → k ≠ i → (listed.setIfInBounds j true).getD k true = false →
    (∀ e ∈ ok.after, Region.binds md e = true → e.on ≠ i) → oi.apart ops ok = true := fun k ok hk hki hun hno => by
    refine hfree k ok hk hki ?_ hno
    by_cases hjk : j = k
    ·subst hjk; exact hjun
    ·rw [getD_set_ne true hjk] at hun; exact hun
   refine wpOp_mono (fun a' w' h3 => ?_) h2
   obtain ⟨hy', S', hS', h4⟩ := h3
   obtain ⟨hw', hSS⟩ := hS' hfj
   refine ⟨S', fun _ => ⟨hw', hSS⟩, ih S' (listed.setIfInBounds j true) a' w' (hcl.list hj) hfree' (ready_mono hr (Ne.symm hji)) (hy'.imp (fun ⟨x, y⟩ => ⟨x, fun w hw => y w (hSS w hw)⟩) id) hw' ?_⟩
   rw [Array.setIfInBounds_comm _ _ hji]
   exact h4
end
/-- Of which operations a quiet one does not wait: behind these the held chunks are asked anew. -/
def frOf (ops : Array Oper) (quiet : List Nat) (j : Nat) : Bool :=
 quiet.contains j || !(quiet.all fun i => anc .any ops i ops.size j)
/-- The order that the walk goes in: a quiet operation; a loud one; two loud ones, whichever comes first. -/
inductive Sched where
 | done
 | quiet (i : Nat) (r : Sched)
 | loud (i : Nat) (r : Sched)
 | both (i : Nat) (r : Sched) (j : Nat) (s : Sched)
/-- It is right: a quiet operation is ready and free; the loud ones are those that are ready. -/
def okSched (ops : Array Oper) (quiet : List Nat) : Nat → Sched → Array Bool → Bool
 | _, .done, listed => (Region.ready .any ops listed).isEmpty
 | 0, _, _ => false
 | f + 1, .quiet i r, listed => quiet.contains i && (Region.ready .any ops listed).contains i && Region.free .any ops listed i && okSched ops quiet f r (listed.setIfInBounds i true)
 | f + 1, .loud i r, listed => Region.ready .any ops listed == [i] && okSched ops quiet f r (listed.setIfInBounds i true)
 | f + 1, .both i r j s, listed => Region.ready .any ops listed == [i, j] && okSched ops quiet f r (listed.setIfInBounds i true) && okSched ops quiet f s (listed.setIfInBounds j true)
/-- One loud operation. -/
def JLoud (P : Program) (E : World) (n : Nat) (all : List Oper) (quiet : List Nat) (H : List HProp) (K : List HProp → Env → List HProp → Prop) (i : Nat) (ρ : Env) (L : List HProp) : Prop := ∀ o, all[i]? = some o →
 okDst n o.dst = true ∧ match o.guard with
  | none => JOp P E n o (fun v L' => ∃ H', (frOf all.toArray quiet i = true → Ent L' H' ∧ Ent H' H) ∧ K H' (ρ.put o.dst v) L') ρ L
  | some (g, b) => ∃ d c, (all.toArray[g]?).bind (·.dst) = some d ∧ ρ.get d = some c ∧
   (if gbOf c = some b then JOp P E n o (fun v L' => ∃ H', (frOf all.toArray quiet i = true → Ent L' H' ∧ Ent H' H) ∧ K H' (ρ.put o.dst v) L') ρ L
    else ∃ H', (frOf all.toArray quiet i = true → Ent L H' ∧ Ent H' H) ∧ K H' (ρ.put o.dst undef) L)
/-- The walk of a region in such an order. -/
def JS (P : Program) (E : World) (n : Nat) (all : List Oper) (quiet : List Nat) (Q : Post) : Sched → List HProp → Env → List HProp → Prop
 | .done, _, ρ, L => Q .normal ρ L
 | .quiet i r, H, ρ, L => ∀ o, all[i]? = some o →
  ∃ v, (match o.guard with
   | none => QOp P E n o ρ H v
   | some (g, b) => ∃ d c, (all.toArray[g]?).bind (·.dst) = some d ∧ ρ.get d = some c ∧ (if gbOf c = some b then QOp P E n o ρ H v else v = undef)) ∧ okDst n o.dst = true ∧
   Ent L H ∧ JS P E n all quiet Q r H (ρ.put o.dst v) L
 | .loud i r, H, ρ, L => JLoud P E n all quiet H (JS P E n all quiet Q r) i ρ L
 | .both i r j s, H, ρ, L => JLoud P E n all quiet H (JS P E n all quiet Q r) i ρ L ∧ JLoud P E n all quiet H (JS P E n all quiet Q s) j ρ L
theorem frOf_spec {ops : Array Oper} {quiet : List Nat} {i : Nat} (hq : i ∈ quiet) : ∀ j oj, ops[j]? = some oj → frOf ops quiet j = false → anc .any ops i ops.size j = true := by
 intro j oj hj hf
 simp only [frOf, Bool.or_eq_false_iff, Bool.not_eq_false'] at hf
 exact List.all_eq_true.1 hf.2 i hq
theorem JLoud.sound {P : Program} {E : World} {n : Nat} {all : List Oper} {quiet : List Nat} {H : List HProp} {Q : Post} {K : List HProp → Env → List HProp → Prop} {K' : (World → Prop) → Act → World → Prop} {i : Nat} {ρ : Env} {L : List HProp} {a : Act} {w : World}
 (h : JLoud P E n all quiet H K i ρ L) (ha : Agrees a n ρ) (hs : Sat E w L) (hr : i < all.length)
 (hk : ∀ H ρ L a w, K H ρ L → Agrees a n ρ → Sat E w L → K' (fun w => Sat E w H) a w) :
 wpOp P all.toArray (lift E n Q) i (fun a' w' => ∃ S', (frOf all.toArray quiet i = true → S' w' ∧ ∀ w, S' w → Sat E w H) ∧ K' S' a' w') a w := by
 have hoi' : all[i]? = some all[i] := List.getElem?_eq_getElem hr
 have hoi : all.toArray[i]? = some all[i] := by simp
 obtain ⟨hd, h⟩ := h _ hoi'
 generalize all[i] = oi at *
 unfold wpOp
 simp only [hoi]
 have fin : ∀ (v : Value) (L' : List HProp) (w' : World), (∃ H', (frOf all.toArray quiet i = true → Ent L' H' ∧ Ent H' H) ∧ K H' (ρ.put oi.dst v) L') → Sat E w' L' →
  ∃ S' : World → Prop, (frOf all.toArray quiet i = true → S' w' ∧ ∀ w, S' w → Sat E w H) ∧ K' S' (a.put oi.dst v) w' := fun v L' w' ⟨H', h1, h2⟩ hs' =>
  ⟨fun w => Sat E w H', fun hf => ⟨(h1 hf).1 E w' hs', fun w hw => (h1 hf).2 E w hw⟩, hk _ _ _ _ _ h2 (ha.put _ _ hd) hs'⟩
 have key : JOp P E n oi (fun v L' => ∃ H', (frOf all.toArray quiet i = true → Ent L' H' ∧ Ent H' H) ∧ K H' (ρ.put oi.dst v) L') ρ L →
  oi.wp P a w (fun a' w' => ∃ S', (frOf all.toArray quiet i = true → S' w' ∧ ∀ w, S' w → Sat E w H) ∧ K' S' a' w') (lift E n Q) :=
  fun h => h a w ha hs _ _ fun v L' w' hk' hs' => fin v L' w' hk' hs'
 cases hg : oi.guard with
 | none =>
  rw [hg] at h
  rw [if_pos (by simp [Region.wanted, hg])]
  exact .inl (key h)
 | some gb =>
  obtain ⟨g, b⟩ := gb
  rw [hg] at h
  obtain ⟨d, c, h1, h2, h3⟩ := h
  by_cases hcb : gbOf c = some b
  ·rw [if_pos hcb] at h3
   rw [if_pos (by simp [Region.wanted, hg, yielded_val ha h1 h2, hcb])]
   exact .inl (key h3)
  ·rw [if_neg hcb] at h3
   rw [if_neg (by simp [Region.wanted, hg, yielded_val ha h1 h2, hcb])]
   exact fin undef L w h3 hs
theorem JS.sound {P : Program} {E : World} {n : Nat} {all : List Oper} {quiet : List Nat} {Q : Post} (hsel : Region.noSelect all.toArray = true) (hQ : ∀ c ρ L, ¬ Q (.panic c) ρ L) :
 ∀ (sched : Sched) (fuel : Nat) (listed : Array Bool) (H : List HProp) (ρ : Env) (L : List HProp) (a : Act) (w : World), okSched all.toArray quiet fuel sched listed = true → Closed .any all.toArray listed → JS P E n all quiet Q sched H ρ L → Agrees a n ρ → Sat E w L →
  wpAnyG P .any all.toArray (lift E n Q) (frOf all.toArray quiet) (fun w => Sat E w H) fuel listed a w
 | .done, 0, listed, H, ρ, L, a, w, ho, _, h, ha, hs => by
  simp only [okSched, List.isEmpty_iff] at ho
  exact ⟨ho, ρ, L, h, ha, hs⟩
 | .done, fuel + 1, listed, H, ρ, L, a, w, ho, _, h, ha, hs => by
  simp only [okSched, List.isEmpty_iff] at ho
  exact ⟨fun _ => ⟨ρ, L, h, ha, hs⟩, by rw [ho]; simp⟩
 | .quiet i r, 0, listed, H, ρ, L, a, w, ho, _, h, ha, hs => by simp [okSched] at ho
 | .loud i r, 0, listed, H, ρ, L, a, w, ho, _, h, ha, hs => by simp [okSched] at ho
 | .both i r j s, 0, listed, H, ρ, L, a, w, ho, _, h, ha, hs => by simp [okSched] at ho
 | .quiet i r, fuel + 1, listed, H, ρ, L, a, w, ho, hcl, h, ha, hs => by
  simp only [okSched, Bool.and_eq_true] at ho
  obtain ⟨⟨⟨hq, hr⟩, hfree⟩, ho2⟩ := ho
  have hmem := List.contains_iff_mem.1 hr
  obtain ⟨hun, oi, hoi, _⟩ := mem_ready.1 hmem
  have hoi' : all[i]? = some oi := by simpa using hoi
  simp only [JS] at h
  obtain ⟨v, hv, hd, hH, hrest⟩ := h oi hoi'
  have hy : YieldsIf P all.toArray (fun w => Sat E w H) oi v a := by
   cases hg : oi.guard with
   | none => rw [hg] at hv; exact .inl ⟨by simp [Region.wanted, hg], fun w' hw' => hv a w' ha hw'⟩
   | some gb =>
    obtain ⟨g, b⟩ := gb
    rw [hg] at hv
    obtain ⟨d, c, h1, h2, h3⟩ := hv
    by_cases hcb : gbOf c = some b
    ·rw [if_pos hcb] at h3
     exact XfZ
    ·rw [if_neg hcb] at h3
     exact .inr ⟨by simp [Region.wanted, hg, yielded_val ha h1 h2, hcb], h3⟩
  refine wpAnyG_first hoi (Region.noSelect_spec hsel) (fun c a w ⟨ρ, L, hc, _⟩ => absurd hc (hQ c ρ L)) (frOf_spec (List.contains_iff_mem.1 hq)) fuel _ listed a w hcl (Region.free_spec hoi hfree) hmem hy (hH E w hs) ?_
  exact JS.sound hsel hQ r fuel _ H _ L _ w ho2 (hcl.list hmem) hrest (ha.put _ _ hd) hs
 | .loud i r, fuel + 1, listed, H, ρ, L, a, w, ho, hcl, h, ha, hs => by
  simp only [okSched, Bool.and_eq_true] at ho
  have hr := eq_of_beq ho.1
  have hmem : i ∈ Region.ready .any all.toArray listed := by rw [hr]; simp
  obtain ⟨_, oi, hoi, _⟩ := mem_ready.1 hmem
  have hlt : i < all.length := by have := (Array.getElem?_eq_some_iff.1 hoi).1; simpa using this
  refine ⟨fun h0 => (by rw [hr] at h0; cases h0), fun j hj => ?_⟩
  rw [hr] at hj
  have hj := List.mem_singleton.1 hj
  subst hj
  exact JLoud.sound (K' := fun S a w => wpAnyG P .any all.toArray (lift E n Q) (frOf all.toArray quiet) S fuel (listed.setIfInBounds j true) a w) h ha hs hlt
   fun H' ρ' L' a' w' hk ha' hs' => JS.sound hsel hQ r fuel _ H' ρ' L' a' w' ho.2 (hcl.list hmem) hk ha' hs'
 | .both i r j s, fuel + 1, listed, H, ρ, L, a, w, ho, hcl, h, ha, hs => by
  simp only [okSched, Bool.and_eq_true] at ho
  obtain ⟨⟨ho1, ho2⟩, ho3⟩ := ho
  have hr := eq_of_beq ho1
  have hmi : i ∈ Region.ready .any all.toArray listed := by rw [hr]; simp
  have hmj : j ∈ Region.ready .any all.toArray listed := by rw [hr]; simp
  have hlt : ∀ k, k ∈ Region.ready .any all.toArray listed → k < all.length := fun k hk => by
   obtain ⟨_, oi, hoi, _⟩ := mem_ready.1 hk
   have := (Array.getElem?_eq_some_iff.1 hoi).1; simpa using this
  refine ⟨fun h0 => (by rw [hr] at h0; cases h0), fun k hk => ?_⟩
  rw [hr] at hk
  rcases List.mem_cons.1 hk with rfl | hk
  ·exact JLoud.sound (K' := fun S a w => wpAnyG P .any all.toArray (lift E n Q) (frOf all.toArray quiet) S fuel (listed.setIfInBounds k true) a w) h.1 ha hs (hlt _ hmi)
    fun H' ρ' L' a' w' hk ha' hs' => JS.sound hsel hQ r fuel _ H' ρ' L' a' w' ho2 (hcl.list hmi) hk ha' hs'
  ·have hk := List.mem_singleton.1 hk
   subst hk
   exact JLoud.sound (K' := fun S a w => wpAnyG P .any all.toArray (lift E n Q) (frOf all.toArray quiet) S fuel (listed.setIfInBounds k true) a w) h.2 ha hs (hlt _ hmj)
    fun H' ρ' L' a' w' hk ha' hs' => JS.sound hsel hQ s fuel _ H' ρ' L' a' w' ho3 (hcl.list hmj) hk ha' hs'
theorem J_draw {P : Program} {E : World} {n id : Nat} {l : List Oper} {Q : Post} {ρ : Env} {L : List HProp} (quiet : List Nat) (sched : Sched) (H : List HProp) (hm : P.follows .mixedOrders = true)
 (hsel : Region.noSelect l.toArray = true) (ho : okSched l.toArray quiet l.toArray.size sched (Array.replicate l.toArray.size false) = true) (hQ : ∀ c ρ L, ¬ Q (.panic c) ρ L)
 (h : JS P E n l quiet Q sched H ρ L) : J P E n (.region id l.toArray true) Q ρ L := fun a _ ha hs =>
 wp_region_any hm (wpAny_of_G _ _ _ _ _ (JS.sound hsel hQ sched _ _ H ρ L a _ ho Closed.start h ha (hs.drawn _)))
end Go.SL
