/- Part 12 of the texts below the row: Sl27, Sl32, Sl33. -/
import Derived.Defers
import Derived.RangeFuncIn
import Derived.RangeFuncLeaves
import Derived.RangeFuncRecord
import Derived.RangeFuncCalls
import Derived.OrdersIn
import Derived.TacticsIn
import Derived.Test.YtdggicfcpcjjlaaGreatDoorM1
import Derived.Test.YtdggicfcpcjjlaaGreatDoorM9
import Derived.Test.YtdggicfcpcjjlaaGreatDoorM11
/- A deferred call: the walk behind it, and the call at the end. -/
set_option autoImplicit false
namespace Go.SL
/-- .. with calls that were deferred before. -/
def late (ds : List Deferred) (a : Act) : Act := { a with defers := a.defers ++ ds }
theorem late_eval (ds : List Deferred) (a : Act) : (late ds a).eval = a.eval := by funext x; cases x <;> rfl
theorem late_put (ds : List Deferred) (a : Act) (d : Option Tmp) (v : Value) : (late ds a).put d v = late ds (a.put d v) := by cases d <;> rfl
section
variable {P : Program} {ds : List Deferred}
theorem LetsOut.late {Q : Exit → Act → World → Prop} : LetsOut (fun e a w => Q e (late ds a) w) → LetsOut Q := fun ⟨a, w, h⟩ => ⟨SL.late ds a, w, h⟩
theorem LetsOut.of {Q Q' : Exit → Act → World → Prop} (hq : ∀ e a w, Q e a w → Q' e (SL.late ds a) w) : LetsOut Q → LetsOut Q' := fun ⟨a, w, h⟩ => ⟨SL.late ds a, w, hq _ _ _ h⟩
theorem upon_late {o : Oper} {a : Act} {next next' : Act → World → Prop} {Q Q' : Exit → Act → World → Prop} {r : Result Next} (hn : ∀ a w, next a w → next' (late ds a) w) (hq : ∀ e a w, Q e a w → Q' e (late ds a) w) (h : o.upon P a next Q r) : o.upon P (late ds a) next' Q' r := by
 cases r with
 | ok x w =>
  cases x with
  | value v => rw [Oper.upon_value] at h ⊢; rw [late_put]; exact hn _ _ h
  | skip => rw [Oper.upon_skip] at h ⊢; rw [late_put]; exact hn _ _ h
  | defer d =>
   rw [Oper.upon_defer] at h ⊢
   have e : ({ late ds a with defers := d :: (late ds a).defers } : Act).put o.dst undef = late ds (({ a with defers := d :: a.defers } : Act).put o.dst undef) := by rw [← late_put]; rfl
   rw [e]; exact hn _ _ h
  | enter f args =>
   rw [Oper.upon_enter] at h ⊢
   refine h.mono fun e w' he => ?_
   cases e with
   | returned v => simp only at he ⊢; rw [late_put]; exact hn _ _ he
   | panicked c => exact hq _ _ _ he
   | outgrown => exact LetsOut.of hq he
  | row row args =>
   rw [Oper.upon_row] at h ⊢
   refine h.mono fun v w' he => ?_
   rw [late_put]; exact hn _ _ he
  | _ => exact h
 | halt s w =>
  cases s with
  | panic v => rw [Oper.upon_panic] at h ⊢; exact hq _ _ _ h
  | _ => exact h
theorem wpOp_late {ops : Array Oper} {a : Act} {w : World} {K K' : Act → World → Prop} {Q Q' : Exit → Act → World → Prop} {i : Nat} (hn : ∀ a w, K a w → K' (late ds a) w) (hq : ∀ e a w, Q e a w → Q' e (late ds a) w) (h : wpOp P ops Q i K a w) : wpOp P ops Q' i K' (late ds a) w := by
 unfold wpOp at h ⊢
 split
 ·rename_i hi; rw [hi] at h; exact hn _ _ h
 ·rename_i o hi
  rw [hi] at h
  have ht : (late ds a).tmps = a.tmps := rfl
  rw [ht]
  dsimp only at h ⊢
  split
  ·rename_i hw
   rw [if_pos hw] at h
   rcases h with h | ⟨h1, h2⟩
   ·left
    unfold Oper.wp at h ⊢
    rw [late_eval]
    exact upon_late hn hq h
   ·right
    refine ⟨?_, LetsOut.of hq h2⟩
    unfold Oper.asks at h1 ⊢
    rw [late_eval]; exact h1
  ·rename_i hw
   rw [if_neg hw] at h
   rw [late_put]; exact hn _ _ h
theorem wpAny_late {md : Region.Mode} {ops : Array Oper} {Q Q' : Exit → Act → World → Prop} (hq : ∀ e a w, Q e a w → Q' e (late ds a) w) : ∀ (fuel : Nat) (listed : Array Bool) (a : Act) (w : World), wpAny P md ops Q fuel listed a w → wpAny P md ops Q' fuel listed (late ds a) w
 | 0, _, _, _, h => ⟨h.1, hq _ _ _ h.2⟩
 | fuel + 1, _, _, _, h => ⟨fun h0 => hq _ _ _ (h.1 h0), fun i hi => wpOp_late (fun a' w' h' => wpAny_late hq fuel _ a' w' h') hq (h.2 i hi)⟩
end
section
variable {P : Program} {E : World} {n : Nat} {ρ : Env} {L H : List HProp}
/-- Code, whatever is asked behind it. -/
def JW (P : Program) (E : World) (n : Nat) (c : Code) (QW : Exit → Act → World → Prop) (ρ : Env) (L : List HProp) : Prop := ∀ a w, Agrees a n ρ → Sat E w L → c.wp P QW a w
/-- Code behind a deferred call. -/
def JWL (P : Program) (E : World) (n : Nat) (ds : List Deferred) (c : Code) (QW : Exit → Act → World → Prop) (ρ : Env) (L : List HProp) : Prop := ∀ a w, Agrees a n ρ → Sat E w L → c.wp P QW (late ds a) w
theorem JW_seq {c d : Code} {QW : Exit → Act → World → Prop} (h : J P E n c (fun e ρ' L' => e = .normal ∧ JW P E n d QW ρ' L') ρ L) : JW P E n (.seq c d) QW ρ L := fun a w ha hs =>
 wp_seq (wp_mono (h a w ha hs) fun e a' w' ⟨ρ', L', ⟨he, hQ⟩, ha', hs'⟩ => by subst he; exact hQ a' w' ha' hs')
theorem JW_defer {id g : Nat} {d : Code} {t ty ty2 : Nat} {p1 p2 : String} {e1 e2 : Array Edge} {ts : Array TypeId} {QW : Exit → Act → World → Prop} {ys : List Operand} {us : List Value} (hys : ρ.evs ys = some us) (ht : Nat.blt t n = true)
 (h : JWL P E n [⟨.fn (.func g) us.toArray, #[]⟩] d QW ((t, .func (.func g) #[] us.toArray) :: ρ) L) :
 JW P E n (.seq (.region id #[⟨some t, .makeFunc (.func g) #[] ys.toArray, ty, p1, e1, none⟩, ⟨none, .defer ⟨.value (.tmp t), #[], ts⟩, ty2, p2, e2, none⟩] false) d) QW ρ L := fun a w ha hs => by
 refine wp_seq (wp_region_lit (l := [_, _]) ?_)
 refine wpList_plain rfl fun K hK => ?_
 have hq := (Q_makeFunc (P := P) (E := E) (n := n) (L := L) (ρ := ρ) (dst := some t) (ty := ty) (pos := p1) (after := e1) (g := none) (fn := .func g) (xs := []) (ys := ys) (vs := []) (us := us) rfl hys) a w ha hs
 unfold Oper.wp
 rw [hq, Oper.upon_value]
 refine hK _ _ (wpList_plain rfl fun K hK => ?_)
 have ha' := ha.put (some t) (.func (.func g) #[] us.toArray) ht
 have hev : (a.put (some t) (.func (.func g) #[] us.toArray)).eval (.tmp t) = .func (.func g) #[] us.toArray := ha'.ev (x := .tmp t) (by simp [Env.ev, Env.put, Env.get])
 unfold Oper.wp
 have hd : (execOp (a.put (some t) (.func (.func g) #[] us.toArray)).eval ⟨none, .defer ⟨.value (.tmp t), #[], ts⟩, ty2, p2, e2, none⟩).run P w = .ok (.defer ⟨.fn (.func g) us.toArray, #[]⟩) w := by
  simp [execOp, resolve, hev, Deferred.ofValue]
 rw [hd, Oper.upon_defer]
 refine hK _ _ (wpList_nil ?_)
 have hdf := ha'.defers
 have key : ∀ (a1 : Act) (dd : Deferred), a1.defers = [] → ({ a1 with defers := dd :: a1.defers } : Act).put none undef = late [dd] a1 := fun a1 dd h1 => by
  cases a1
  simp only at h1
  subst h1
  rfl
 have e := key (a.put (some t) (.func (.func g) #[] us.toArray)) ⟨.fn (.func g) us.toArray, #[]⟩ hdf
 show d.wp P QW _ w
 rw [e]
 exact h _ w ha' hs
/-- A deferred function: called when its caller leaves. -/
def DoesD (P : Program) (E : World) (f : Nat) (args : List Value) (pre : List HProp) (K : Value → List HProp → Prop) : Prop :=
 ∀ (F : HProp) (u : FrameMode) (w : World), Sat E w (pre ++ [F]) → CallsD P f args.toArray u w fun e u' w' => u' = u ∧ ∃ v L', e = .returned v ∧ K v L' ∧ Sat E w' (L' ++ [F])
theorem enter_agrees {n : Nat} {args : List Value} {m : Nat} (hn : m = n) (hl : args.length ≤ n) : Agrees { tmps := args.toArray ++ Array.replicate (m - args.toArray.size) undef, defers := [] } n (argEnv 0 args) := by
 refine ⟨rfl, by simp [hn]; omega, fun t v hv => ?_⟩
 obtain ⟨_, h2⟩ := argEnv_get args 0 t v hv
 have hlt := (List.getElem?_eq_some_iff.1 h2).1
 refine ⟨by omega, ?_⟩
 simp only [Nat.sub_zero] at h2 hlt
 rw [List.getElem?_eq_getElem hlt] at h2
 simp [Array.getD_eq_getD_getElem?, Array.getElem?_append, hlt]
 exact Option.some.inj h2
theorem DoesD.of {f : Nat} {fn : Func} {c : Code} {args : List Value} {pre : List HProp} {K : Value → List HProp → Prop} {rs : List ResultVar} (hf : P.funcs[f]? = some fn) (hb : fn.body = some c) (hn : fn.ntmps = n) (hr : fn.results = rs.toArray) (hl : Nat.ble args.length n = true)
 (h : ∀ F, J P E n c (retQ P E n rs K F) (argEnv 0 args) (pre ++ [F])) : DoesD P E f args pre K := fun F u w hs => by
 refine callsD_of_wp hf hb ?_
 refine wp_mono (h F _ w (enter_agrees hn (Nat.le_of_ble_eq_true hl)) hs) fun e a' w' ⟨ρ', L', hQ, ha', hs'⟩ => ?_
 cases e with
 | normal =>
  obtain ⟨vs, L'', h1, h2, h3⟩ := hQ
  exact Xeh
 | ret =>
  obtain ⟨vs, L'', h1, h2, h3⟩ := hQ
  exact Xeh
 | exit id => exact hQ.elim
 | goto l => exact hQ.elim
 | panic c => exact hQ.elim
 | outgrown => exact hQ.elim
/-- A function that defers a call. -/
theorem Does.deferred {f : Nat} {fn : Func} {c : Code} {args : List Value} {pre : List HProp} {K : Value → List HProp → Prop} (hf : P.funcs[f]? = some fn) (hb : fn.body = some c) (hn : fn.ntmps = n) (hl : Nat.ble args.length n = true)
 (h : ∀ F, JW P E n c (bodyPostD P fn fun e w' => ∃ v L', e = .returned v ∧ K v L' ∧ Sat E w' (L' ++ [F])) (argEnv 0 args) (pre ++ [F])) : Does P E f args pre K := fun F w hs =>
 calls_of_wp_defers hf hb (h F _ w (enter_agrees hn (Nat.le_of_ble_eq_true hl)) hs)
theorem RV_cell1 {x t b tb : Nat} {v : Value} {cs : List Value} {d : TypeDesc} (i : Nat) [u : TyU P t d] (h : ρ.get x = some (.pointer (some ⟨b, 0, none⟩))) (hi : L[i]? = some (cel b cs tb)) (hd : isAggD d = false) (hv : cs[0]? = some v) :
 RV P E n (.cell x t) ρ L v := fun a w ha hs => by
 have h1 := hs.cel_cell hi 0 v hv
 simp [rvSem, (ha.get x _ h).2, asAddr, loadVar, run_isAgg u.h, hd, h1]
theorem JW.norm {c : Code} {QW : Exit → Act → World → Prop} {L' : List HProp} [g : NormL L L'] (h : JW P E n c QW ρ L') : JW P E n c QW ρ L := by rw [g.h]; exact h
end
end Go.SL
/- A range over a function: the rounds walked in their own frame; yield called; the statement. -/
set_option autoImplicit false
namespace Go.SL
/-- The fence that lets everything in; in a round, or not. -/
def wf (ro : Option Nat) : Fence := { Fence.wide with round := ro }
theorem callsIn_wf {ro : Option Nat} {n : Nat} {P : Program} {f : FuncId} {args : Array Value} {w : World} {R : Ending → World → Prop} (h : Calls P f args w R) : CallsIn (wf ro) n P f args w R :=
 show CallsIn Fence.wide n P f args w R from callsIn_wide.2 h
def noDefer (o : Oper) : Bool := match o.op with
 | .defer _ => false
 | _ => true
theorem noDefer_ne {o : Oper} (h : noDefer o = true) : ∀ c, o.op ≠ .defer c := fun c e => by unfold noDefer at h; rw [e] at h; cases h
section
variable {P : Program} {ro : Option Nat}
theorem wp_in {o : Oper} {a : Act} {w : World} {K : Act → World → Prop} {Q : Exit → Act → World → Prop} (hnd : noDefer o = true) (h : o.wp P a w K Q) : o.wpIn (wf ro) 0 P a w K Q := by
 refine ⟨fun _ _ => trivial, ?_⟩
 rw [Oper.semAt_eq _ _ _ (noDefer_ne hnd)]
 unfold Oper.wp at h
 generalize (execOp a.eval o).run P w = r at *
 match r, h with
 | .ok (.value v) w', h => exact h
 | .ok .skip w', h => exact h
 | .ok (.defer d) w', h => exact h
 | .ok (.enter f args) w', h =>
  refine ⟨fun hx => (by cases hx), ?_⟩
  exact callsIn_wf h
 | .ok (.row row args) w', h =>
  refine ⟨fun hx => (by cases hx), fun c cs _ => ?_⟩
  obtain ⟨v, w'', hr, hs⟩ := h c cs
  exact ⟨v, w'', hr, stepsIn_wide.2 hs⟩
 | .halt (.panic v) w', h => exact h
theorem wpList_in {ops : Array Oper} {Q : Exit → Act → World → Prop} (hO : ¬ LetsOut Q) : ∀ (l : List Oper) (a : Act) (w : World), l.all noDefer = true → wpList P ops Q l a w → wpListIn (wf ro) 0 P ops Q l a w
 | [], _, _, _, h => h
 | o :: rest, a, w, hl, h => by
  simp only [List.all_cons, Bool.and_eq_true] at hl
  simp only [wpList, wpListIn] at *
  split
  ·rename_i hw
   rw [if_pos hw] at h
   rcases h with h | ⟨_, h⟩
   ·refine wp_in hl.1 (Oper.wp_mono (fun a w h => wpList_in hO rest a w hl.2 h) h)
   ·exact absurd h hO
  ·rename_i hw
   rw [if_neg hw] at h
   exact ⟨fun _ _ => trivial, wpList_in hO rest _ w hl.2 h⟩
theorem wpAny_in {md : Region.Mode} {ops : Array Oper} {Q : Exit → Act → World → Prop} (hO : ¬ LetsOut Q) (hl : ops.toList.all noDefer = true) : ∀ (fuel : Nat) (listed : Array Bool) (a : Act) (w : World), wpAny P md ops Q fuel listed a w → wpAnyIn (wf ro) 0 P md ops Q fuel listed a w
 | 0, _, _, _, h => h
 | fuel + 1, listed, a, w, h => ⟨h.1, fun i hi => by
  have h1 := h.2 i hi
  unfold wpOp at h1
  unfold wpOpIn
  cases ho : ops[i]? with
  | none => rw [ho] at h1; exact wpAny_in hO hl fuel _ a w h1
  | some o =>
   rw [ho] at h1
   simp only at h1 ⊢
   have hd : noDefer o = true := List.all_eq_true.1 hl o (Array.mem_toList_iff.2 (Array.mem_of_getElem? ho))
   split
   ·rename_i hw
    rw [if_pos hw] at h1
    rcases h1 with h1 | ⟨_, h1⟩
    ·exact wp_in hd (Oper.wp_mono (fun a w h => wpAny_in hO hl fuel _ a w h) h1)
    ·exact absurd h1 hO
   ·rename_i hw
    rw [if_neg hw] at h1
    exact ⟨fun _ _ => trivial, wpAny_in hO hl fuel _ _ w h1⟩⟩
end
/-! ### A round's code -/
def JR (P : Program) (E : World) (n : Nat) (lp : Nat) (c : Code) (Q : Post) (ρ : Env) (L : List HProp) : Prop := ∀ a w, Agrees a n ρ → Sat E w L → c.wpIn (wf (some lp)) 0 P (lift E n Q) a w
def seqR (P : Program) (E : World) (n : Nat) (lp : Nat) (c : Code) (Q : Post) : Post
 | .normal, ρ, L => JR P E n lp c Q ρ L
 | e, ρ, L => Q e ρ L
/-- No way out but the ordinary ones. -/
def Calm (Q : Post) : Prop := ∀ ρ L, ¬ Q .outgrown ρ L
section
variable {P : Program} {E : World} {n lp : Nat} {Q : Post} {ρ : Env} {L : List HProp} {c d : Code}
theorem Calm.lets (h : Calm Q) : ¬ LetsOut (lift E n Q) := fun ⟨_, _, ρ, L, hq, _⟩ => h ρ L hq
theorem JR.ent {L' : List HProp} (he : Ent L L') (h : JR P E n lp c Q ρ L') : JR P E n lp c Q ρ L := fun a w ha hs => h a w ha (he E w hs)
theorem JR.sub {e : Env} (he : envSub e ρ) (h : JR P E n lp c Q e L) : JR P E n lp c Q ρ L := fun a w ha hs => h a w (ha.sub he) hs
theorem JR_skip (h : Q .normal ρ L) : JR P E n lp .skip Q ρ L := fun _ _ ha hs => wpIn_skip ⟨ρ, L, h, ha, hs⟩
theorem JR_exit {id : Nat} (h : Q (.exit id) ρ L) : JR P E n lp (.exit id) Q ρ L := fun _ _ ha hs => wpIn_exit ⟨ρ, L, h, ha, hs⟩
theorem JR_seq (h : JR P E n lp c (seqR P E n lp d Q) ρ L) : JR P E n lp (.seq c d) Q ρ L := fun a w ha hs =>
 wpIn_seq (wpIn_mono (h a w ha hs) fun e a' w' ⟨ρ', L', hQ, ha', hs'⟩ => by
  cases e with
  | normal => exact hQ a' w' ha' hs'
  | _ => exact ⟨ρ', L', hQ, ha', hs'⟩)
theorem JR_block {id : Nat} (h : JR P E n lp c (blockQ id Q) ρ L) : JR P E n lp (.block id c) Q ρ L := fun a w ha hs =>
 wpIn_block (wpIn_mono (h a w ha hs) fun e a' w' ⟨ρ', L', hQ, ha', hs'⟩ => by
  cases e with
  | exit j =>
   simp only [Exit.inBlock]
   by_cases e : j = id
   ·subst e; simp only [blockQ, Nat.beq_refl, cond_true] at hQ; simp only [if_true]; exact ⟨ρ', L', hQ, ha', hs'⟩
   ·have : Nat.beq j id = false := by cases hb : Nat.beq j id with | false => rfl | true => exact absurd (Nat.eq_of_beq_eq_true hb) e
    simp only [blockQ, this, cond_false] at hQ
    simp only [e, if_false]; exact ⟨ρ', L', hQ, ha', hs'⟩
  | _ => exact ⟨ρ', L', hQ, ha', hs'⟩)
theorem seqR_normal (h : JR P E n lp c Q ρ L) : seqR P E n lp c Q .normal ρ L := h
theorem seqR_exit {id : Nat} (h : Q (.exit id) ρ L) : seqR P E n lp c Q (.exit id) ρ L := h
theorem JR_condT {x : Operand} (hx : ρ.ev x = some (.bool true)) (h1 : JR P E n lp c Q ρ L) : JR P E n lp (.cond x c d) Q ρ L := fun a w ha hs => wpIn_cond_true (ha.ev hx) (h1 a w ha hs)
theorem JR_condF {x : Operand} (hx : ρ.ev x = some (.bool false)) (h1 : JR P E n lp d Q ρ L) : JR P E n lp (.cond x c d) Q ρ L := fun a w ha hs => wpIn_cond_false (ha.ev hx) (h1 a w ha hs)
theorem JR_loop {ι : Type} (I : ι → Prop) (env : ι → Env) (res : ι → List HProp) (μ : ι → Nat) (i₀ : ι) (h0 : I i₀) (he : envSub (env i₀) ρ) (hL : Ent L (res i₀))
 (hb : ∀ i, I i → JR P E n lp c (loopQ I env res μ i Q) (env i) (res i)) : JR P E n lp (.loop c) Q ρ L := fun a w ha hs => by
 let Jm : Nat → Act → World → Prop := fun m a w => ∃ i, μ i = m ∧ I i ∧ Agrees a n (env i) ∧ Sat E w (res i)
 refine wpIn_loop (fun a w => ∃ m, Jm m a w) (fun a w => leastOf (fun m => Jm m a w)) ⟨μ i₀, i₀, rfl, h0, ha.sub he, hL E w hs⟩ ?_
 intro a w hJ
 obtain ⟨i, hi, hI, ha', hs'⟩ := (leastOf_spec hJ).1
 refine wpIn_mono (hb i hI a w ha' hs') fun e a' w' ⟨ρ', L', hQ, ha', hs'⟩ => ?_
 cases e with
 | normal =>
  obtain ⟨i', h1, h2, h3, h4⟩ := hQ
  have hJ' : Jm (μ i') a' w' := ⟨i', rfl, h1, ha'.sub h3, h4 E w' hs'⟩
  exact ⟨⟨μ i', hJ'⟩, Nat.lt_of_le_of_lt ((leastOf_spec ⟨μ i', hJ'⟩).2 _ hJ') (by rw [← hi]; exact h2)⟩
 | _ => exact ⟨ρ', L', hQ, ha', hs'⟩
theorem JR_region {id : Nat} {l : List Oper} (hnd : l.all noDefer = true) (hO : Calm Q) (h : JL P E n l l Q ρ L) : JR P E n lp (.region id l.toArray false) Q ρ L := fun a w ha hs =>
 wpIn_region_lit (wpList_in hO.lets l a w hnd (h a w ha hs))
theorem JR_drawH {id : Nat} {l : List Oper} {H : List HProp} (idx : List Nat) (quiet : List Nat) (sched : Sched) (hm : P.follows .mixedOrders = true)
 (hsel : Region.noSelect l.toArray = true) (ho : okSched l.toArray quiet l.toArray.size sched (Array.replicate l.toArray.size false) = true) (hQ : ∀ c ρ L, ¬ Q (.panic c) ρ L) (hnd : l.all noDefer = true) (hO : Calm Q) [NormL (pick idx L) H]
 (h : JS P E n l quiet Q sched H ρ L) : JR P E n lp (.region id l.toArray true) Q ρ L := fun a w ha hs =>
 wpIn_region_any hm (wpAny_in hO.lets (by simpa using hnd) _ _ _ _ (wpAny_of_G _ _ _ _ _ (JS.sound hsel hQ sched _ _ H ρ L a _ ho Closed.start h ha (hs.drawn _))))
theorem JR.norm {L' : List HProp} [g : NormL L L'] (h : JR P E n lp c Q ρ L') : JR P E n lp c Q ρ L := by rw [g.h]; exact h
theorem seqR_calm (h : Calm Q) : Calm (seqR P E n lp c Q) := fun ρ L h' => h ρ L h'
theorem blockQ_calm {id : Nat} (h : Calm Q) : Calm (blockQ id Q) := fun ρ L h' => h ρ L h'
theorem loopQ_calm {ι : Type} {I : ι → Prop} {env : ι → Env} {res : ι → List HProp} {μ : ι → Nat} {i : ι} (h : Calm Q) : Calm (loopQ I env res μ i Q) := fun ρ L h' => h ρ L h'
theorem seqR_noP (h : ∀ c ρ L, ¬ Q (.panic c) ρ L) : ∀ d ρ L, ¬ seqR P E n lp c Q (.panic d) ρ L := fun d ρ L h' => h d ρ L h'
/-- A round that ends as it should: where its walk comes to. -/
def endR (K : Env → List HProp → Prop) : Post
 | .normal, ρ, L => K ρ L
 | _, _, _ => False
theorem endR_normal {K : Env → List HProp → Prop} {ρ : Env} {L : List HProp} (h : K ρ L) : endR K .normal ρ L := h
theorem endR_calm {K : Env → List HProp → Prop} : Calm (endR K) := fun _ _ h => h
theorem endR_noP {K : Env → List HProp → Prop} : ∀ c ρ L, ¬ endR K (.panic c) ρ L := fun _ _ _ h => h
end
/-! ### Rounds, yield, the statement -/
def rec0 (fn : Nat) (tm : Array Value) (ps : Array Tmp) (assign body : Code) (r : Nat) : Obj := .loop { state := .ready, pending := none, fn, tmps := tm, params := ps, assign, body, defers := r }
section
variable {P : Program} {E : World} {n : Nat}
/-- A round of the loop lp, on a value. -/
def DoesY (P : Program) (E : World) (lp : Nat) (R : Loop) (args : Array Value) (pre : List HProp) (K : List HProp → Prop) : Prop :=
 ∀ (F : HProp) (w : World), Sat E w (blk lp (.loop R) :: pre ++ [F]) → RoundIn Fence.wide 0 P lp R.fn ((R.params.zip args).foldl (fun tmps (t, a) => tmps.setIfInBounds t a) R.tmps) R.assign R.body w fun e w' =>
  e = .returned (.bool true) ∧ ∃ L', K L' ∧ Sat E w' (blk lp (.loop R) :: L' ++ [F])
theorem Sat.turnB {w w' : World} {b : Nat} {o o' : Obj} {L : List HProp} (h : Sat E w (blk b o :: L)) (ht : Turned w w' b o') : Sat E w' (blk b o' :: L) := by
 have := h.turned (i := 0) rfl ht
 simpa using this
theorem turned_put (w : World) (b : Nat) (o : Obj) (hb : b < w.heap.size) : Turned w (w.putObj b o) b o := by
 refine ⟨rfl, rfl, rfl, by simp [World.putObj], fun k hk hs => ?_, ?_⟩
 ·exact World.putObj_heap_other (fun e => hk e)
 ·simp [World.putObj, hb]
theorem DoesY.of {lp fn r : Nat} {tm : Array Value} {t0 : Nat} {assign body : Code} {v : Value} {pre : List HProp} {K : List HProp → Prop} {ρ : Env} (hρ : Agrees ⟨tm.setIfInBounds t0 v, []⟩ n ρ)
 (h : ∀ F, JR P E n lp assign (endR fun ρ' L' => ∃ T, L' = blk lp (rec0 fn tm #[t0] assign body r) :: T ∧ JR P E n lp body (endR fun _ L'' => ∃ M, K M ∧ Ent L'' (blk lp (.loop { state := .busy, pending := none, fn, tmps := tm, params := #[t0], assign, body, defers := r }) :: M ++ [F])) ρ' (blk lp (.loop { state := .busy, pending := none, fn, tmps := tm, params := #[t0], assign, body, defers := r }) :: T)) ρ (blk lp (rec0 fn tm #[t0] assign body r) :: pre ++ [F])) :
 DoesY P E lp { state := .ready, pending := none, fn, tmps := tm, params := #[t0], assign, body, defers := r } #[v] pre K := fun F w hs => by
 refine roundIn_of_wpIn trivial ?_
 have hz : ((#[t0].zip #[v]).foldl (fun tmps (t, a) => tmps.setIfInBounds t a) tm) = tm.setIfInBounds t0 v := by simp
 simp only [hz]
 refine wpIn_mono (h F _ w hρ hs) fun e a1 w1 ⟨ρ1, L1, hQ, ha1, hs1⟩ => ?_
 cases e with
 | normal =>
  obtain ⟨T, rfl, hbody⟩ := hQ
  have hb1 := hs1.blk_at (i := 0) rfl
  refine ⟨_, run_beginRound hb1.1 rfl, ?_⟩
  have hs2 := hs1.turnB (turned_put w1 lp (.loop { state := .busy, pending := none, fn, tmps := tm, params := #[t0], assign, body, defers := r }) hb1.2.2)
  refine wpIn_mono (hbody a1 _ ha1 hs2) fun e a2 w2 ⟨ρ2, L2, hQ2, ha2, hs3⟩ => ?_
  cases e with
  | normal =>
   obtain ⟨M, hK, hE⟩ := hQ2
   have hs4 := hE E w2 hs3
   have hb2 := hs4.blk_at (i := 0) rfl
   refine ⟨_, _, run_endRound none hb2.1, rfl, M, hK, ?_⟩
   exact hs4.turnB (turned_put w2 lp _ hb2.2.2)
  | _ => exact hQ2.elim
 | _ => exact hQ.elim
/-- A region one of whose operations calls yield. -/
def JLI (P : Program) (E : World) (n : Nat) (all ops : List Oper) (Q : Post) (ρ : Env) (L : List HProp) : Prop := ∀ a w, Agrees a n ρ → Sat E w L → wpListIn Fence.wide 0 P all.toArray (lift E n Q) ops a w
variable {ρ : Env} {L : List HProp} {Q : Post} {all rest : List Oper} {o : Oper}
theorem J_regionI {id : Nat} {l : List Oper} (h : JLI P E n l l Q ρ L) : J P E n (.region id l.toArray false) Q ρ L := fun a w ha hs => wpIn_wide.1 (wpIn_region_lit (h a w ha hs))
theorem I_nil (h : Q .normal ρ L) : JLI P E n all [] Q ρ L := fun _ _ ha hs => wpListIn_nil ⟨ρ, L, h, ha, hs⟩
theorem I_o {d : Tmp} (hd : o.dst = some d) (hn : Nat.blt d n = true) (hg : o.guard = none) (hnd : noDefer o = true) (h : JOp P E n o (fun v L' => JLI P E n all rest Q ((d, v) :: ρ) L') ρ L) : JLI P E n all (o :: rest) Q ρ L := fun a w ha hs => by
 refine wpListIn_step fun K hK => ?_
 rw [if_pos (by simp [Region.wanted, hg])]
 refine wp_in (ro := none) hnd (h a w ha hs _ _ fun v L' w' hk hs' => hK _ _ ?_)
 have hp := ha.put o.dst v (by rw [hd]; exact hn)
 rw [hd] at hp ⊢
 exact hk _ w' hp hs'
theorem I_q {d : Tmp} {v : Value} (hq : QOp P E n o ρ L v) (hd : o.dst = some d) (hn : Nat.blt d n = true) (hg : o.guard = none) (hnd : noDefer o = true) (h : JLI P E n all rest Q ((d, v) :: ρ) L) : JLI P E n all (o :: rest) Q ρ L := I_o hd hn hg hnd (hq.jop h)
theorem I_y {d lp : Nat} {R : Loop} {v : Value} {x y : Operand} {ts : Array TypeId} {ty : TypeId} {pos : String} {after : Array Edge} {pre M : List HProp} {K : List HProp → Prop} (idx ridx : List Nat) (hn : Nat.blt d n = true) (hx : ρ.ev x = some (.func (.yield lp) #[] #[])) (hy : ρ.ev y = some v) (h1 : R.params.size = 1)
 (hc : DoesY P E lp R #[v] pre K) (hi : okIdx L.length (idx ++ ridx) = true) [hp : NormL (pick idx L) (blk lp (.loop R) :: pre)] [hR : NormL (pick ridx L) M]
 (h : ∀ L', K L' → JLI P E n all rest Q ((d, .bool true) :: ρ) (blk lp (.loop R) :: L' ++ M)) :
 JLI P E n all (⟨some d, .call ⟨.value x, #[y], ts⟩, ty, pos, after, none⟩ :: rest) Q ρ L := fun a w ha hs => by
 have h2 : Sat E w (blk lp (.loop R) :: pre ++ M) := by
  rw [← hp.h, ← hR.h]
  have := hs.pick _ hi
  rw [SL.pick, List.map_append] at this
  exact this
 refine wpListIn_step fun K' hK => ?_
 rw [if_pos (by simp [Region.wanted])]
 refine ⟨fun _ _ => trivial, ?_⟩
 have hb := h2.blk_at (i := 0) rfl
 have e1 : ((Oper.semAt Fence.wide.round a.eval ⟨some d, .call ⟨.value x, #[y], ts⟩, ty, pos, after, none⟩).run P w) = .ok (.round lp R.fn ((R.params.zip #[v]).foldl (fun tmps (t, a) => tmps.setIfInBounds t a) R.tmps) R.assign R.body) w := by
  rw [Oper.semAt_eq _ _ _ (by intro c h; cases h)]
  have hr := run_yield (P := P) hb.1 (args := #[v]) (by simp [h1])
  simp only [execOp, resolve]
  have e2 : (Array.map a.eval #[y]) = #[v] := by simp [ha.ev hy]
  simp only [e2, ha.ev hx, Deferred.ofValue, run_bind_pure, invoke, Array.empty_append]
  exact hr
 rw [e1]
 refine ⟨fun hx => (by cases hx), ?_⟩
 refine (hc (stars M) w h2.fold).mono ?_
 rintro e w' ⟨rfl, L', hk, hs'⟩
 have hs2 : Sat E w' (blk lp (.loop R) :: L' ++ M) := hs'.unfold
 exact hK _ _ (h L' hk _ w' (ha.put (some d) (.bool true) hn) hs2)
end
end Go.SL
/- The statement of a range over a function; how such a function leaves. -/
set_option autoImplicit false
namespace Go.SL
section
variable {P : Program} {ds : List Deferred}
theorem wpList_late {ops : Array Oper} {Q Q' : Exit → Act → World → Prop} (hq : ∀ e a w, Q e a w → Q' e (late ds a) w) : ∀ (l : List Oper) (a : Act) (w : World), wpList P ops Q l a w → wpList P ops Q' l (late ds a) w
 | [], _, _, h => hq _ _ _ h
 | o :: rest, a, w, h => by
  have e1 : (late ds a).tmps = a.tmps := rfl
  simp only [wpList] at *
  rw [e1]
  split
  ·rename_i hw
   rw [if_pos hw] at h
   rcases h with h | ⟨h1, h2⟩
   ·refine .inl ?_
    unfold Oper.wp at h ⊢
    rw [late_eval]
    exact upon_late (fun a w h => wpList_late hq rest a w h) hq h
   ·refine .inr ⟨?_, LetsOut.of hq h2⟩
    unfold Oper.asks at h1 ⊢
    rw [late_eval]; exact h1
  ·rename_i hw
   rw [if_neg hw] at h
   rw [late_put]; exact wpList_late hq rest _ w h
end
section
variable {P : Program} {E : World} {n : Nat} {ρ : Env} {L : List HProp} {QW : Exit → Act → World → Prop}
theorem JWL_region {id : Nat} {l : List Oper} {ds : List Deferred} {d : Code} (h : JL P E n l l (fun e ρ' L' => e = .normal ∧ JWL P E n ds d QW ρ' L') ρ L) : JWL P E n ds (.seq (.region id l.toArray false) d) QW ρ L := fun a w ha hs =>
 wp_seq (wp_region_lit (wpList_late (fun e a' w' ⟨ρ', L', ⟨he, hQ⟩, ha', hs'⟩ => by subst he; exact hQ a' w' ha' hs') l a w (h a w ha hs)))
theorem JW_seq2 {c d e : Code} (h : J P E n c (fun x ρ' L' => x = .normal ∧ JW P E n d (Exit.then (e.wp P QW) QW) ρ' L') ρ L) : JW P E n (.seq (.seq c d) e) QW ρ L := fun a w ha hs =>
 wp_seq (wp_seq (wp_mono (h a w ha hs) fun x a' w' ⟨ρ', L', ⟨hx, hQ⟩, ha', hs'⟩ => by subst hx; exact hQ a' w' ha' hs'))
theorem Does.marks {f : Nat} {fn : Func} {c : Code} {args : List Value} {pre : List HProp} {K : Value → List HProp → Prop} (hf : P.funcs[f]? = some fn) (hb : fn.body = some c) (hn : fn.ntmps = n) (hl : Nat.ble args.length n = true)
 (h : ∀ F, JW P E n c (bodyPostM Fence.wide 0 P fn fun e w' => ∃ v L', e = .returned v ∧ K v L' ∧ Sat E w' (L' ++ [F])) (argEnv 0 args) (pre ++ [F])) : Does P E f args pre K := fun F w hs =>
 callsIn_wide.1 (callsIn_of_wp_marks hf hb trivial (wpIn_wide.2 (h F _ w (enter_agrees hn (Nat.le_of_ble_eq_true hl)) hs)))
theorem JWL_retM {fn : Func} {r : Nat} {rs : List ResultVar} {F : HProp} {K : Value → List HProp → Prop} (vs : List Value) (L' : List HProp) (hr : fn.results = rs.toArray)
 (h1 : RVs P E n ρ L rs vs) (h2 : K (oneOf vs) L') (h3 : Ent L (L' ++ [F])) :
 JWL P E n [⟨.collected r, #[]⟩] .ret (bodyPostM Fence.wide 0 P fn fun e w' => ∃ v L', e = .returned v ∧ K v L' ∧ Sat E w' (L' ++ [F])) ρ (blk r (.deferred (some [])) :: L) := fun a w ha hs => by
 refine wp_ret ?_
 have e : (late [⟨.collected r, #[]⟩] a).defers = [⟨.collected r, #[]⟩] := by simp [late, ha.defers]
 show LeavesInM Fence.wide 0 P fn (late [⟨.collected r, #[]⟩] a).tmps _ (late [⟨.collected r, #[]⟩] a).defers .returning w
 rw [e]
 have hb := hs.blk_at (i := 0) rfl
 have hs2 := drop2 (hs.turnB (turned_put w r (.deferred none) hb.2.2))
 exact ⟨by simp, .inl ⟨r, _, rfl, run_takeDeferred hb.1, _, h1.run fn hr a _ ha hs2, _, _, rfl, h2, h3 E _ hs2⟩⟩
theorem JW_range {bid gf t0 : Nat} {g : Operand} {assign body rest : Code} {us : List Value} {ι : Type} {pre M : List HProp} (I : ι → Prop) (res : ι → List HProp) (idx ridx : List Nat) [hf : HasFn P gf] (hx : ρ.ev g = some (.func (.func gf) #[] us.toArray))
 (hi : okIdx L.length (idx ++ ridx) = true) [hp : NormL (pick idx L) pre] [hR : NormL (pick ridx L) M]
 (hc : ∀ lp r fn tm, Agrees ⟨tm, []⟩ n ρ → Does P E gf (.func (.yield lp) #[] #[] :: us) (blk lp (rec0 fn tm #[t0] assign body r) :: pre) fun _ L' => ∃ i, I i ∧ L' = blk lp (rec0 fn tm #[t0] assign body r) :: res i)
 (h : ∀ r i, I i → JWL P E n [⟨.collected r, #[]⟩] rest QW ρ (blk r (.deferred (some [])) :: res i ++ M)) :
 JW P E n (.block bid (.rangeFunc g #[t0] assign body)) (Exit.then (rest.wp P QW) QW) ρ L := fun a w ha hs => by
 refine wp_block ?_
 refine (wpIn_wide (n := 0)).1 ?_
 refine wpIn_rangeFunc fun fn _ => ?_
 have h0 : Sat E w (pre ++ M) := by
  rw [← hp.h, ← hR.h]
  have := hs.pick _ hi
  rw [SL.pick, List.map_append] at this
  exact this
 have s1 := h0.newed (newed_alloc w (.deferred (some [])))
 have s2 := s1.newed (newed_alloc _ (rec0 fn a.tmps #[t0] assign body w.heap.size))
 have hz : (w.alloc (.deferred (some []))).heap.size = w.heap.size + 1 := by simp
 rw [hz] at s2
 have hd := ha.defers
 have ht : Agrees ⟨a.tmps, []⟩ n ρ := ⟨rfl, ha.size, ha.get⟩
 have hsat : Sat E ((w.alloc (.deferred (some []))).alloc (rec0 fn a.tmps #[t0] assign body w.heap.size)) ((blk (w.heap.size + 1) (rec0 fn a.tmps #[t0] assign body w.heap.size) :: pre) ++ [stars (blk w.heap.size (.deferred (some [])) :: M)]) := by
  refine Sat.fold ?_
  have s3 : Sat E _ ([blk (w.heap.size + 1) (rec0 fn a.tmps #[t0] assign body w.heap.size)] ++ (blk w.heap.size (.deferred (some [])) :: (pre ++ M))) := s2
  have hperm : (blk w.heap.size (.deferred (some [])) :: (pre ++ M)).Perm (pre ++ blk w.heap.size (.deferred (some [])) :: M) := List.perm_middle.symm
  have s4 := Sat.perm hperm s3
  simpa using s4
 have hcall := hc (w.heap.size + 1) w.heap.size fn a.tmps ht (stars (blk w.heap.size (.deferred (some [])) :: M)) _ hsat
 refine ⟨w.heap.size + 1, [⟨.collected w.heap.size, #[]⟩], (w.alloc (.deferred (some []))).alloc (rec0 fn a.tmps #[t0] assign body w.heap.size), ⟨.fn (.func gf) us.toArray, #[.func (.yield (w.heap.size + 1)) #[] #[]]⟩, (w.alloc (.deferred (some []))).alloc (rec0 fn a.tmps #[t0] assign body w.heap.size), gf, ((.func (.yield (w.heap.size + 1)) #[] #[] :: us) : List Value).toArray, (w.alloc (.deferred (some []))).alloc (rec0 fn a.tmps #[t0] assign body w.heap.size), run_enterLoop_outer fn a.tmps #[t0] assign body, ?_, fun _ _ => trivial, ?_, fun hx => (by cases hx), ?_⟩
 ·have e1 : a.eval g = .func (.func gf) #[] us.toArray := ha.ev hx
  simp only [resolve]
  rw [e1]
  simp [Deferred.ofValue, Act.eval]
 ·simp only [invoke]
  have := run_callFunc hf (((.func (.yield (w.heap.size + 1)) #[] #[] :: us) : List Value).toArray) ((w.alloc (.deferred (some []))).alloc (rec0 fn a.tmps #[t0] assign body w.heap.size))
  simpa using this
 ·refine callsIn_wide.2 (Calls.mono hcall ?_)
  rintro e w3 ⟨v, L', rfl, ⟨i, hI, rfl⟩, hs3⟩
  have s5 : Sat E w3 (blk (w.heap.size + 1) (rec0 fn a.tmps #[t0] assign body w.heap.size) :: res i ++ (blk w.heap.size (.deferred (some [])) :: M)) := hs3.unfold
  have hb := s5.blk_at (i := 0) rfl
  refine ⟨_, _, run_endLoop hb.1 (by simp), ?_⟩
  have s6 := drop2 (s5.turnB (turned_put w3 _ (.loop { state := .exhausted, pending := none, fn, tmps := a.tmps, params := #[t0], assign, body, defers := w.heap.size }) hb.2.2))
  have hperm : (res i ++ blk w.heap.size (.deferred (some [])) :: M).Perm (blk w.heap.size (.deferred (some [])) :: (res i ++ M)) := List.perm_middle
  have s7 := Sat.perm (A := []) hperm s6
  have e2 : ({ a with defers := [⟨.collected w.heap.size, #[]⟩] ++ a.defers } : Act) = late [⟨.collected w.heap.size, #[]⟩] a := by
   cases a; simp only at hd; subst hd; rfl
  show rest.wp P QW ({ a with defers := [⟨.collected w.heap.size, #[]⟩] ++ a.defers } : Act) _
  rw [e2]
  exact h w.heap.size i hI a _ ha s7
theorem Ent.spread {R : List HProp} : Ent (stars R :: L) (R ++ L) := fun _ _ h => by
 have h1 : Sat _ _ (L ++ R) := Sat.unfold (A := L) (Sat.rot (A := [stars R]) h)
 exact h1.rot
theorem Ent.gather {R : List HProp} : Ent (R ++ L) (stars R :: L) := fun _ _ h => Sat.rot (B := [stars R]) (Sat.fold (A := L) h.rot)
theorem JW.ent {c : Code} {L' : List HProp} (he : Ent L L') (h : JW P E n c QW ρ L') : JW P E n c QW ρ L := fun a w ha hs => h a w ha (he E w hs)
theorem JWL.ent {ds : List Deferred} {c : Code} {L' : List HProp} (he : Ent L L') (h : JWL P E n ds c QW ρ L') : JWL P E n ds c QW ρ L := fun a w ha hs => h a w ha (he E w hs)
end
end Go.SL
