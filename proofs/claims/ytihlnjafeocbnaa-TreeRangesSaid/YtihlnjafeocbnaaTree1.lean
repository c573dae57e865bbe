/- A node: how it lies; keys compared; a key's place. -/
import Derived.Laws.Externs
import Derived.Test.YtihlnjafeocbnaaTreeI
set_option autoImplicit false
namespace Go.SL
def CmpFn (P : Program) (f : Nat) : Prop := ∃ fn : Func, P.funcs[f]? = some fn ∧ (fn.name == "runtime.NumGoroutine") = false ∧ fn.body.isNone = true ∧ Extern.findNext fn = none ∧ Extern.find fn = some Extern.BytealgCompare.compare
theorem O_cmp {P : Program} {E : World} {n : Nat} {ρ : Env} {L : List HProp} {dst : Option Tmp} {ty : TypeId} {pos : String} {after : Array Edge} {g : Option (Nat × Bool)} {K : Value → List HProp → Prop} {f : Nat} {x y : Operand} {ts : Array TypeId} {a b : List UInt8} (hf : CmpFn P f) (hx : ρ.ev x = some (str a)) (hy : ρ.ev y = some (str b)) (hK : K (.int .i64 (Lib.compareBytes a b)) L) :
    JOp P E n ⟨dst, .call ⟨.value (.func f), #[x, y], ts⟩, ty, pos, after, g⟩ K ρ L := fun c w ha hs next Q hn => by
  obtain ⟨fn, h1, h2, h3, h4, h5⟩ := hf
  unfold Oper.wp
  simp only [execOp, resolve]
  have e1 : (Array.map c.eval #[x, y]) = #[str a, str b] := by simp [ha.ev hx, ha.ev hy]
  have e2 : c.eval (.func f) = .func (.func f) #[] #[] := rfl
  simp only [e1, e2, Deferred.ofValue, run_bind_pure, invoke, Array.empty_append, Array.append_empty]
  rw [run_callFunc_extern h1 h2 h3 h4 h5, Lib.run_compareString]
  simp only [Result.andThen_ok]
  exact hn _ _ w hK hs
end Go.SL
namespace Go.Proofs
open Go.SL
abbrev posK (l : List Kv) (k : Ky) : Nat := (lo l k).length
theorem pos_le (l : List Kv) (k : Ky) : posK l k ≤ l.length := List.length_filter_le _ _
theorem lo_take {l : List Kv} (h : Up l) (k : Ky) : l.take (posK l k) = lo l k := by
  rcases up_lo_hi h k with ⟨u, hu⟩ | ⟨hu, _⟩
  · have := List.take_left (l₁ := lo l k) (l₂ := ⟨k, u⟩ :: hi l k)
    rwa [← hu] at this
  · have := List.take_left (l₁ := lo l k) (l₂ := hi l k)
    rwa [← hu] at this
theorem pos_lt {l : List Kv} (h : Up l) {k : Ky} {j : Nat} (hj : j < l.length) (hp : j < posK l k) : kl l[j].key k = true := by
  have h1 : l[j] ∈ lo l k := by
    rw [← lo_take h k, List.mem_iff_getElem]
    exact ⟨j, by simp; omega, by rw [List.getElem_take]⟩
  exact (List.mem_filter.1 h1).2
theorem pos_ge {l : List Kv} (h : Up l) {k : Ky} {j : Nat} (hj : j < l.length) (hp : posK l k ≤ j) : kl l[j].key k = false := by
  cases hx : kl l[j].key k with
  | false => rfl
  | true =>
    exfalso
    have key : ∀ (m : Nat) (hm : m ≤ j), kl (l[m]'(by omega)).key k = true := fun m hm => by
      rcases Nat.eq_or_lt_of_le hm with e | e
      · subst e; exact hx
      · exact kl_trans (List.pairwise_iff_getElem.1 h m j (by omega) hj e) hx
    have h1 : (l.take (j + 1)).filter (fun x => kl x.key k) = l.take (j + 1) := List.filter_eq_self.2 fun x hx => by
      obtain ⟨m, hm, rfl⟩ := List.getElem_of_mem hx
      rw [List.getElem_take]
      exact key m (by simp at hm; omega)
    have h2 : (lo l k).length = ((l.take (j + 1)).filter fun x => kl x.key k).length + ((l.drop (j + 1)).filter fun x => kl x.key k).length := by
      rw [← List.length_append, ← List.filter_append, List.take_append_drop]; rfl
    rw [h1, List.length_take] at h2
    have hpk : posK l k = (lo l k).length := rfl
    omega
theorem has_at {l : List Kv} (h : Up l) {k : Ky} (hh : hasL l k = true) : ∃ hp : posK l k < l.length, l[posK l k].key = k := by
  rcases up_lo_hi h k with ⟨u, hu⟩ | ⟨_, hf⟩
  · have hl := congrArg List.length hu
    simp only [List.length_append, List.length_cons] at hl
    have hpk : posK l k = (lo l k).length := rfl
    refine ⟨by omega, ?_⟩
    have h2 : l[posK l k]? = some ⟨k, u⟩ := by
      rw [hu]
      rw [← hu]
      have := List.getElem?_append_right (l₁ := lo l k) (l₂ := ⟨k, u⟩ :: hi l k) (i := posK l k) (Nat.le_refl _)
      rw [← hu] at this
      rw [this]; simp
    rw [List.getElem?_eq_getElem (by omega)] at h2
    rw [Option.some.inj h2]
  · rw [hf] at hh; cases hh
theorem at_has {l : List Kv} (h : Up l) {k : Ky} {j : Nat} (hj : j < l.length) (he : l[j].key = k) : hasL l k = true ∧ j = posK l k := by
  refine ⟨by unfold hasL; rw [List.any_eq_true]; exact ⟨l[j], List.getElem_mem hj, decide_eq_true he⟩, ?_⟩
  rcases Nat.lt_trichotomy j (posK l k) with h1 | h1 | h1
  · have := pos_lt h hj h1; rw [he, kl_irr] at this; cases this
  · exact h1
  · have h2 := List.pairwise_iff_getElem.1 h (posK l k) j (by omega) hj h1
    rw [he] at h2
    have := pos_ge h (k := k) (j := posK l k) (by omega) (Nat.le_refl _)
    rw [h2] at this; cases this
abbrev ndC (p : Nat) (S Q : SV) : HProp := cel p [S.v, Q.v] 52
def nodeA : (d : Nat) → Nat → T d → HProp
  | 0, p, t => hex fun g : SV × SV => stars [ndC p g.1 g.2, slc tKv true g.1 (tks 0 t), slc tNd true g.2 []]
  | d + 1, p, t => hex fun g : SV × SV × List (Nat × T d) => star (pur (g.2.2.map (·.2) = t.2)) (stars [ndC p g.1 g.2.1, slc tKv true g.1 t.1, slc tNd true g.2.1 (g.2.2.map fun e => some e.1), stars (g.2.2.map fun e => nodeA d e.1 e.2)])
abbrev ndE (d : Nat) (e : Nat × T d) : HProp := nodeA d e.1 e.2
theorem Ent.leafA {p : Nat} {t : T 0} {S Q : SV} {L : List HProp} : Ent (ndC p S Q :: slc tKv true S (tks 0 t) :: slc tNd true Q [] :: L) (nodeA 0 p t :: L) := fun E w h => by
  have h1 := Sat.rot (A := [ndC p S Q, slc tKv true S (tks 0 t), slc tNd true Q []]) (B := L) h
  have h3 : Sat E w (stars [ndC p S Q, slc tKv true S (tks 0 t), slc tNd true Q []] :: L) := Sat.rot (A := L) h1.fold
  exact h3.mkex (f := fun g : SV × SV => stars [ndC p g.1 g.2, slc tKv true g.1 (tks 0 t), slc tNd true g.2 []]) (S, Q)
theorem Ent.innerA {d p : Nat} {K : List Kv} {C : List (T d)} {S Q : SV} {es : List (Nat × T d)} {L : List HProp} (hC : es.map (·.2) = C) : Ent (ndC p S Q :: slc tKv true S K :: slc tNd true Q (es.map fun e => some e.1) :: stars (es.map (ndE d)) :: L) (nodeA (d + 1) p (K, C) :: L) := fun E w h => by
  have h1 := Sat.rot (A := [ndC p S Q, slc tKv true S K, slc tNd true Q (es.map fun e => some e.1), stars (es.map (ndE d))]) (B := L) h
  have h3 : Sat E w (stars [ndC p S Q, slc tKv true S K, slc tNd true Q (es.map fun e => some e.1), stars (es.map (ndE d))] :: L) := Sat.rot (A := L) h1.fold
  have h4 : Sat E w (pur (es.map (·.2) = C) :: stars [ndC p S Q, slc tKv true S K, slc tNd true Q (es.map fun e => some e.1), stars (es.map (ndE d))] :: L) := h3.lay fun _ => hC
  exact (h4.mkstar).mkex (f := fun g : SV × SV × List (Nat × T d) => star (pur (g.2.2.map (·.2) = C)) (stars [ndC p g.1 g.2.1, slc tKv true g.1 K, slc tNd true g.2.1 (g.2.2.map fun e => some e.1), stars (g.2.2.map fun e => nodeA d e.1 e.2)])) (S, Q, es)
theorem Sat.leaf_out {E w : World} {p : Nat} {t : T 0} {L : List HProp} (h : Sat E w (nodeA 0 p t :: L)) : ∃ g : SV × SV, Sat E w (ndC p g.1 g.2 :: slc tKv true g.1 (tks 0 t) :: slc tNd true g.2 [] :: L) := by
  obtain ⟨g, hg⟩ := Sat.ex (f := fun g : SV × SV => stars [ndC p g.1 g.2, slc tKv true g.1 (tks 0 t), slc tNd true g.2 []]) h
  exact ⟨g, Sat.rot (A := L) (hg.rot (A := [_]) (B := L)).unfold⟩
theorem Sat.inner_out {E w : World} {d p : Nat} {t : T (d + 1)} {L : List HProp} (h : Sat E w (nodeA (d + 1) p t :: L)) : ∃ g : { g : SV × SV × List (Nat × T d) // g.2.2.map (·.2) = t.2 }, Sat E w (ndC p g.1.1 g.1.2.1 :: slc tKv true g.1.1 t.1 :: slc tNd true g.1.2.1 (g.1.2.2.map fun e => some e.1) :: stars (g.1.2.2.map (ndE d)) :: L) := by
  obtain ⟨g, hg⟩ := Sat.ex (f := fun g : SV × SV × List (Nat × T d) => star (pur (g.2.2.map (·.2) = t.2)) (stars [ndC p g.1 g.2.1, slc tKv true g.1 t.1, slc tNd true g.2.1 (g.2.2.map fun e => some e.1), stars (g.2.2.map fun e => nodeA d e.1 e.2)])) h
  obtain ⟨hm, h2⟩ := hg.star.fact
  exact ⟨⟨g, hm⟩, Sat.rot (A := L) (h2.rot (A := [_]) (B := L)).unfold⟩
theorem J.leaf {P : Program} {E : World} {n : Nat} {c : Code} {Q : Post} {ρ : Env} {p : Nat} {t : T 0} {L : List HProp} (h : ∀ S R, J P E n c Q ρ (ndC p S R :: slc tKv true S (tks 0 t) :: slc tNd true R [] :: L)) : J P E n c Q ρ (nodeA 0 p t :: L) :=
  J.open (fun _ hs => Sat.leaf_out hs) fun g => h g.1 g.2
theorem J.inner {P : Program} {E : World} {n : Nat} {c : Code} {Q : Post} {ρ : Env} {d p : Nat} {t : T (d + 1)} {L : List HProp} (h : ∀ (S R : SV) (es : List (Nat × T d)), es.map (·.2) = t.2 → J P E n c Q ρ (ndC p S R :: slc tKv true S t.1 :: slc tNd true R (es.map fun e => some e.1) :: stars (es.map (ndE d)) :: L)) : J P E n c Q ρ (nodeA (d + 1) p t :: L) :=
  J.open (fun _ hs => Sat.inner_out hs) fun g => h g.1.1 g.1.2.1 g.1.2.2 g.2
attribute [local irreducible] J JL QOp JOp seqQ blockQ loopQ retQ slc cel hex star pur stars Does RV Ent pAt scopeQ
theorem cmps_ok (E : World) (a b : Ky) : Does Try.prog E 46 [str a, str b] [] fun v L => v = .int .i64 (Lib.compareBytes a b) ∧ L = [] := by
  have hf : CmpFn Try.prog 54 := ⟨_, Try.func54, by kernel_rfl, by kernel_rfl, by kernel_rfl, by kernel_rfl⟩
  refine Does.of Try.func46 rfl Try.ntmps46 rfl rfl fun F => ?_
  refine J.norm ?_
  refine J_seq ?_
  refine J_region ?_
  refine L_q (Q_assign rfl) rfl rfl rfl ?_
  refine JL_nil ?_
  refine seqQ_normal ?_
  refine J_seq ?_
  refine J_region ?_
  refine L_q (Q_move rfl) rfl rfl rfl ?_
  refine L_q (Q_move rfl) rfl rfl rfl ?_
  refine L_o rfl rfl rfl (O_cmp hf rfl rfl ?_)
  refine JL.norm ?_
  refine L_q (Q_assign rfl) rfl rfl rfl ?_
  refine JL_nil ?_
  refine seqQ_normal ?_
  refine J_ret ?_
  exact retQ_ret _ [] (.cons (RV_tmp rfl) .nil) ⟨rfl, rfl⟩ (Ent.refl _)
theorem compare_ok (E : World) (a b : Ky) : Does Try.prog E 37 [str a, str b] [] fun v L => v = .int .i64 (Lib.compareBytes a b) ∧ L = [] := by
  refine Does.of Try.func37 rfl Try.ntmps37 rfl rfl fun F => ?_
  refine J.norm ?_
  refine J_seq ?_
  refine J_region ?_
  refine L_q (Q_assign rfl) rfl rfl rfl ?_
  refine JL_nil ?_
  refine seqQ_normal ?_
  refine J_seq ?_
  refine J_region ?_
  refine L_q (Q_move rfl) rfl rfl rfl ?_
  refine L_q (Q_move rfl) rfl rfl rfl ?_
  refine L_o rfl rfl rfl (O_call [] [0] (cmps_ok E a b) rfl rfl ?_)
  rintro _ _ ⟨rfl, rfl⟩
  refine JL.norm ?_
  refine L_q (Q_assign rfl) rfl rfl rfl ?_
  refine JL_nil ?_
  refine seqQ_normal ?_
  refine J_ret ?_
  exact retQ_ret _ [] (.cons (RV_tmp rfl) .nil) ⟨rfl, rfl⟩ (Ent.refl _)
theorem find1_ok (E : World) (x : Kv) (c : Nat) (k : Ky) : Does Try.prog E 36 [.agg (kvV x).toArray, .pointer (some ⟨c, 0, none⟩)] [cel c [str k] 9] fun v L => v = .int .i64 (Lib.compareBytes x.key k) ∧ L = [cel c [str k] 9] := by
  refine Does.of Try.func36 rfl Try.ntmps36 rfl rfl fun F => ?_
  refine J.norm ?_
  refine J_seq ?_
  refine J_region ?_
  refine L_o rfl rfl rfl (O_box rfl fun b2 => ?_)
  refine L_q (Q_assign rfl) rfl rfl rfl ?_
  refine JL_nil ?_
  refine seqQ_normal ?_
  refine J_seq ?_
  refine J_region ?_
  refine L_q (Q_fa0 rfl) rfl rfl rfl ?_
  refine L_q (Q_ld 0 rfl rfl rfl rfl) rfl rfl rfl ?_
  refine L_q (Q_ld 1 rfl rfl rfl rfl) rfl rfl rfl ?_
  refine L_o rfl rfl rfl (O_call [] [0,1,2] (compare_ok E x.key k) rfl rfl ?_)
  rintro _ _ ⟨rfl, rfl⟩
  refine JL.norm ?_
  refine L_q (Q_assign rfl) rfl rfl rfl ?_
  refine JL_nil ?_
  refine seqQ_normal ?_
  refine J_ret ?_
  exact retQ_ret _ [cel c [str k] 9] (.cons (RV_tmp rfl) .nil) ⟨rfl, rfl⟩ (Ent.re [1, 2] rfl)
theorem search_ok (E : World) (S : SV) (l : List Kv) (c : Nat) (k : Ky) (hl : l.length ≤ 1000) (hs : Up l) : Does Try.prog E 35 [S.v, .func (.func 36) #[] #[.pointer (some ⟨c, 0, none⟩)]] [slc tKv true S l, cel c [str k] 9]
    fun v L => v = .tuple #[.int .i64 (posK l k : Int), .bool (hasL l k)] ∧ L = [slc tKv true S l, cel c [str k] 9] := by
  have hpl := pos_le l k
  refine Does.of Try.func35 rfl Try.ntmps35 rfl rfl fun F => ?_
  refine J.norm ?_
  refine J_seq ?_
  refine J_region ?_
  refine L_q (Q_assign rfl) rfl rfl rfl ?_
  refine L_q (Q_assign rfl) rfl rfl rfl ?_
  refine JL_nil ?_
  refine seqQ_normal ?_
  refine J_seq ?_
  refine J_region ?_
  refine L_q (Q_move rfl) rfl rfl rfl ?_
  refine L_q (Q_lenAt 0 rfl rfl) rfl rfl rfl ?_
  refine L_q (Q_assign rfl) rfl rfl rfl ?_
  refine L_q (Q_assign rfl) rfl rfl rfl ?_
  refine JL_nil ?_
  refine seqQ_normal ?_
  refine J_seq ?_
  refine J_block ?_
  refine J_loop (fun i : Nat × Nat => i.1 ≤ posK l k ∧ posK l k ≤ i.2 ∧ i.2 ≤ l.length ∧ (hasL l k = true → posK l k < i.2)) (fun i => [(0, S.v), (1, .func (.func 36) #[] #[.pointer (some ⟨c, 0, none⟩)]), (6, .int .i64 (i.1 : Int)), (7, .int .i64 (i.2 : Int))]) (fun _ => [slc tKv true S l, cel c [str k] 9, F]) (fun i => i.2 - i.1) (0, l.length) ⟨Nat.zero_le _, hpl, Nat.le_refl _, fun h => (has_at hs h).1⟩ ⟨rfl, rfl, rfl, rfl, trivial⟩ (Ent.refl _) ?_
  rintro ⟨lw, hg⟩ ⟨i1, i2, i3, i4⟩
  dsimp only at i1 i2 i3 i4 ⊢
  refine J_seq ?_
  refine J_seq ?_
  refine J_region ?_
  refine L_q (Q_move rfl) rfl rfl rfl ?_
  refine L_q (Q_move rfl) rfl rfl rfl ?_
  refine L_q (Q_lss rfl rfl) rfl rfl rfl ?_
  refine JL_nil ?_
  refine seqQ_normal ?_
  refine J_condD rfl (fun h => ?_) (fun h => ?_)
  · have hlh : lw < hg := by omega
    have hq : ((lw : Int) + (hg : Int)).tdiv 2 = (((lw + hg) / 2 : Nat) : Int) := by
      have := Int.tdiv_eq_ediv_of_nonneg (a := (lw : Int) + hg) (b := 2) (by omega)
      omega
    have hm1 : lw ≤ (lw + hg) / 2 ∧ (lw + hg) / 2 < hg := by omega
    refine J_skip ?_
    refine seqQ_normal ?_
    refine J_block ?_
    refine J_seq ?_
    refine J_region ?_
    refine L_q (Q_move rfl) rfl rfl rfl ?_
    refine L_q (Q_move rfl) rfl rfl rfl ?_
    refine L_q (Q_add rfl rfl (by first | exact IntWalk.i64_in _ (by omega) | exact IntWalk.u8_in _ (by omega) | exact IntWalk.u32_in _ (by omega) | exact IntWalk.u64_in _ (by omega) | rfl)) rfl rfl rfl ?_
    refine L_q (Q_quo (r := (((lw + hg) / 2 : Nat) : Int)) rfl rfl (by decide) (by rw [hq]; exact IntWalk.i64_in _ (by omega))) rfl rfl rfl ?_
    refine L_q (Q_assign rfl) rfl rfl rfl ?_
    refine JL_nil ?_
    refine seqQ_normal ?_
    refine J_seq ?_
    generalize (lw + hg) / 2 = mid at *
    have hmid : mid < l.length := by omega
    have hc := find1_ok E l[mid] c k
    rw [cmp_kl] at hc
    refine J_region ?_
    refine L_q (Q_move rfl) rfl rfl rfl ?_
    refine L_q (Q_move rfl) rfl rfl rfl ?_
    refine L_q (Q_move rfl) rfl rfl rfl ?_
    refine L_q (Q_ixAt 0 mid rfl rfl rfl rfl hmid rfl) rfl rfl rfl ?_
    refine L_q (Q_ldEAAt 0 mid 0 (vs := kvV l[mid]) rfl rfl rfl rfl hmid (by decide) rfl) rfl rfl rfl ?_
    refine L_o rfl rfl rfl (O_dyn [1] [0,2] rfl rfl rfl hc rfl ?_)
    rintro _ _ ⟨rfl, rfl⟩
    refine JL.norm ?_
    refine L_q (Q_assign rfl) rfl rfl rfl ?_
    refine JL_nil ?_
    refine seqQ_normal ?_
    refine J_seq ?_
    refine J_seq ?_
    rcases kl_tri l[mid].key k with e | e | e
    · have hp : mid < posK l k := by
        rcases Nat.lt_or_ge mid (posK l k) with h2 | h2
        · exact h2
        · have := pos_ge hs hmid h2; rw [e] at this; cases this
      rw [if_pos e]
      refine J_region ?_
      refine L_q (Q_move rfl) rfl rfl rfl ?_
      refine L_q ((Q_eql rfl rfl).as (v' := .bool false) rfl) rfl rfl rfl ?_
      refine JL_nil ?_
      refine seqQ_normal ?_
      refine J_condF rfl ?_
      refine J_skip ?_
      refine seqQ_normal ?_
      refine J_seq ?_
      refine J_region ?_
      refine L_q (Q_move rfl) rfl rfl rfl ?_
      refine L_q ((Q_lss rfl rfl).as (v' := .bool true) rfl) rfl rfl rfl ?_
      refine JL_nil ?_
      refine seqQ_normal ?_
      refine J_condT rfl ?_
      refine J_region ?_
      refine L_q (Q_move rfl) rfl rfl rfl ?_
      refine L_q (Q_add rfl rfl (by first | exact IntWalk.i64_in _ (by omega) | exact IntWalk.u8_in _ (by omega) | exact IntWalk.u32_in _ (by omega) | exact IntWalk.u64_in _ (by omega) | rfl)) rfl rfl rfl ?_
      refine L_q (Q_assign rfl) rfl rfl rfl ?_
      refine JL_nil ?_
      refine blockQ_normal ?_
      exact loopQ_normal (mid + 1, hg) ⟨hp, i2, i3, i4⟩ (by simp only; omega) ⟨rfl, rfl, rfl, rfl, trivial⟩ (Ent.re [1, 0, 2] rfl)
    · obtain ⟨h1, h2⟩ := at_has hs hmid e
      rw [e, kl_irr, if_neg (by simp), if_neg (by simp)]
      refine J_region ?_
      refine L_q (Q_move rfl) rfl rfl rfl ?_
      refine L_q ((Q_eql rfl rfl).as (v' := .bool true) rfl) rfl rfl rfl ?_
      refine JL_nil ?_
      refine seqQ_normal ?_
      refine J_condT rfl ?_
      refine J_seq ?_
      refine J_region ?_
      refine L_q (Q_move rfl) rfl rfl rfl ?_
      refine L_q (Q_assign rfl) rfl rfl rfl ?_
      refine L_q (Q_assign rfl) rfl rfl rfl ?_
      refine JL_nil ?_
      refine seqQ_normal ?_
      refine J_ret ?_
      refine seqQ_ret ?_
      refine blockQ_ret ?_
      refine loopQ_ret ?_
      refine blockQ_ret ?_
      refine seqQ_ret ?_
      exact retQ_ret _ [slc tKv true S l, cel c [str k] 9] (.cons (RV_tmp rfl) (.cons (RV_tmp rfl) .nil)) ⟨by rw [h1, ← h2]; rfl, rfl⟩ (Ent.re [1, 0, 2] rfl)
    · have hp : posK l k ≤ mid := by
        rcases Nat.lt_or_ge mid (posK l k) with h2 | h2
        · have := pos_lt hs hmid h2; rw [kl_asymm e] at this; cases this
        · exact h2
      have hp2 : hasL l k = true → posK l k < mid := fun hh => by
        obtain ⟨h3, h4⟩ := has_at hs hh
        rcases Nat.eq_or_lt_of_le hp with h5 | h5
        · simp only [h5] at h4; rw [h4, kl_irr] at e; cases e
        · exact h5
      rw [kl_asymm e, if_neg (by simp), if_pos e]
      refine J_region ?_
      refine L_q (Q_move rfl) rfl rfl rfl ?_
      refine L_q ((Q_eql rfl rfl).as (v' := .bool false) rfl) rfl rfl rfl ?_
      refine JL_nil ?_
      refine seqQ_normal ?_
      refine J_condF rfl ?_
      refine J_skip ?_
      refine seqQ_normal ?_
      refine J_seq ?_
      refine J_region ?_
      refine L_q (Q_move rfl) rfl rfl rfl ?_
      refine L_q ((Q_lss rfl rfl).as (v' := .bool false) rfl) rfl rfl rfl ?_
      refine JL_nil ?_
      refine seqQ_normal ?_
      refine J_condF rfl ?_
      refine J_region ?_
      refine L_q (Q_move rfl) rfl rfl rfl ?_
      refine L_q (Q_assign rfl) rfl rfl rfl ?_
      refine JL_nil ?_
      refine blockQ_normal ?_
      exact loopQ_normal (lw, mid) ⟨i1, hp, by simp only; omega, hp2⟩ (by simp only; omega) ⟨rfl, rfl, rfl, rfl, trivial⟩ (Ent.re [1, 0, 2] rfl)
  · obtain rfl : lw = posK l k := by omega
    have hf : hasL l k = false := by
      cases hx : hasL l k with
      | false => rfl
      | true => have := i4 hx; omega
    refine J_exit ?_
    refine seqQ_exit ?_
    refine loopQ_exit ?_
    refine blockQ_hit ?_
    refine seqQ_normal ?_
    refine J_seq ?_
    refine J_region ?_
    refine L_q (Q_move rfl) rfl rfl rfl ?_
    refine L_q (Q_assign rfl) rfl rfl rfl ?_
    refine L_q (Q_assign rfl) rfl rfl rfl ?_
    refine JL_nil ?_
    refine seqQ_normal ?_
    refine J_ret ?_
    exact retQ_ret _ [slc tKv true S l, cel c [str k] 9] (.cons (RV_tmp rfl) (.cons (RV_tmp rfl) .nil)) ⟨by rw [hf]; rfl, rfl⟩ (Ent.refl _)
theorem find_ok (E : World) (p : Nat) (S R : SV) (l : List Kv) (k : Ky) (hl : l.length ≤ 1000) (hs : Up l) : Does Try.prog E 25 [.pointer (some ⟨p, 0, none⟩), str k] [ndC p S R, slc tKv true S l] fun v L => v = .tuple #[.int .i64 (posK l k : Int), .bool (hasL l k)] ∧ L = [ndC p S R, slc tKv true S l] := by
  refine Does.of Try.func25 rfl Try.ntmps25 rfl rfl fun F => ?_
  refine J.norm ?_
  refine J_seq ?_
  refine J_region ?_
  refine L_o rfl rfl rfl (O_box rfl fun b3 => ?_)
  refine L_q (Q_assign rfl) rfl rfl rfl ?_
  refine L_q (Q_assign rfl) rfl rfl rfl ?_
  refine JL_nil ?_
  refine seqQ_normal ?_
  refine J_seq ?_
  refine J_region ?_
  refine L_q (Q_move rfl) rfl rfl rfl ?_
  refine L_q (Q_nilCheck rfl) rfl rfl rfl ?_
  refine L_q (Q_fa0 rfl) rfl rfl rfl ?_
  refine L_q (Q_ld 1 rfl rfl rfl rfl) rfl rfl rfl ?_
  refine L_q (Q_makeFunc (xs := []) (ys := [.tmp 3]) (vs := []) (us := [.pointer (some ⟨b3, 0, none⟩)]) rfl rfl) rfl rfl rfl ?_
  refine L_o rfl rfl rfl (O_call [2,0] [1,3] (search_ok E S l b3 k hl hs) rfl rfl ?_)
  rintro _ _ ⟨rfl, rfl⟩
  refine JL.norm ?_
  refine L_q (Q_extract (v := .int .i64 (posK l k : Int)) rfl rfl) rfl rfl rfl ?_
  refine L_q (Q_extract (v := .bool (hasL l k)) rfl rfl) rfl rfl rfl ?_
  refine L_q (Q_assign rfl) rfl rfl rfl ?_
  refine L_q (Q_assign rfl) rfl rfl rfl ?_
  refine JL_nil ?_
  refine seqQ_normal ?_
  refine J_ret ?_
  exact retQ_ret _ [ndC p S R, slc tKv true S l] (.cons (RV_tmp rfl) (.cons (RV_tmp rfl) .nil)) ⟨rfl, rfl⟩ (Ent.re [2, 0, 3] rfl)
theorem leaf_ok (E : World) (p : Nat) (S R : SV) (qs : List (Option Nat)) : Does Try.prog E 26 [.pointer (some ⟨p, 0, none⟩)] [ndC p S R, slc tNd true R qs] fun v L => v = .bool (decide ((qs.length : Int) = 0)) ∧ L = [ndC p S R, slc tNd true R qs] := by
  refine Does.of Try.func26 rfl Try.ntmps26 rfl rfl fun F => ?_
  refine J.norm ?_
  refine J_seq ?_
  refine J_region ?_
  refine L_q (Q_assign rfl) rfl rfl rfl ?_
  refine JL_nil ?_
  refine seqQ_normal ?_
  refine J_seq ?_
  refine J_region ?_
  refine L_q (Q_move rfl) rfl rfl rfl ?_
  refine L_q (Q_nilCheck rfl) rfl rfl rfl ?_
  refine L_q (Q_fa0 rfl) rfl rfl rfl ?_
  refine L_q (Q_ld 0 rfl rfl rfl rfl) rfl rfl rfl ?_
  refine L_q (Q_lenAt 1 rfl rfl) rfl rfl rfl ?_
  refine L_q (Q_eql rfl rfl) rfl rfl rfl ?_
  refine L_q (Q_assign rfl) rfl rfl rfl ?_
  refine JL_nil ?_
  refine seqQ_normal ?_
  refine J_ret ?_
  exact retQ_ret _ [ndC p S R, slc tNd true R qs] (.cons (RV_tmp rfl) .nil) ⟨rfl, rfl⟩ (Ent.refl _)
end Go.Proofs
