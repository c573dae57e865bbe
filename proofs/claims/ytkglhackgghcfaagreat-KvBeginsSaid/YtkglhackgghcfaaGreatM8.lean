/- Part 8 of the texts below the row: Tree1, Tree2. -/
import Derived.Laws.Externs
import Derived.Test.YtkglhackgghcfaaGreatM7
/- A node: how it lies; keys compared; a key's place. -/
set_option autoImplicit false
namespace Go.SL
def CmpFn (P : Program) (f : Nat) : Prop := ∃ fn : Func, P.funcs[f]? = some fn ∧ (fn.name == "runtime.NumGoroutine") = false ∧ fn.body.isNone = true ∧ Extern.findNext fn = none ∧ Extern.find fn = some Extern.BytealgCompare.compare
theorem O_cmp {P : Program} {E : World} {n : Nat} {ρ : Env} {L : List HProp} {dst : Option Tmp} {ty : TypeId} {pos : String} {after : Array Edge} {g : Option (Nat × Bool)} {K : Value → List HProp → Prop} {f : Nat} {x y : Operand} {ts : Array TypeId} {a b : List UInt8} (hf : CmpFn P f) (hx : ρ.ev x = some (str a)) (hy : ρ.ev y = some (str b)) (hK : K (.int .i64 (Lib.compareBytes a b)) L) :
    JOp P E n ⟨dst, .call ⟨.value (.func f), #[x, y], ts⟩, ty, pos, after, g⟩ K ρ L := fun c w ha hs next Q hn => by
  obtain ⟨fn, h1, h2, h3, h4, h5⟩ := hf
  unfold Oper.wp
  simp only [execOp, resolve]
  have e1 : (Array.map c.eval #[x, y]) = #[str a, str b] := by simp [ha.ev hx, ha.ev hy]
  have e2 : c.eval (.func f) = .func (.func f) #[] #[] := rfl
  simp only [e1, e2, Deferred.ofValue, run_bind_pure, invoke, Array.empty_append, Array.append_empty]
  rw [run_callFunc_extern h1 h2 h3 h4 h5, Lib.run_compareString]
  simp only [Result.andThen_ok]
  exact hn _ _ w hK hs
end Go.SL
namespace Go.Proofs.Bt
open Go.SL
abbrev posK (l : List Kv) (k : Ky) : Nat := (lo l k).length
theorem pos_le (l : List Kv) (k : Ky) : posK l k ≤ l.length := List.length_filter_le _ _
theorem lo_take {l : List Kv} (h : Up l) (k : Ky) : l.take (posK l k) = lo l k := by
  rcases up_lo_hi h k with ⟨u, hu⟩ | ⟨hu, _⟩
  · have := List.take_left (l₁ := lo l k) (l₂ := ⟨k, u⟩ :: hi l k)
    rwa [← hu] at this
  · have := List.take_left (l₁ := lo l k) (l₂ := hi l k)
    rwa [← hu] at this
theorem pos_lt {l : List Kv} (h : Up l) {k : Ky} {j : Nat} (hj : j < l.length) (hp : j < posK l k) : kl l[j].key k = true := by
  have h1 : l[j] ∈ lo l k := by
    rw [← lo_take h k, List.mem_iff_getElem]
    exact ⟨j, by simp; omega, by rw [List.getElem_take]⟩
  exact (List.mem_filter.1 h1).2
theorem pos_ge {l : List Kv} (h : Up l) {k : Ky} {j : Nat} (hj : j < l.length) (hp : posK l k ≤ j) : kl l[j].key k = false := by
  cases hx : kl l[j].key k with
  | false => rfl
  | true =>
    exfalso
    have key : ∀ (m : Nat) (hm : m ≤ j), kl (l[m]'(by omega)).key k = true := fun m hm => by
      rcases Nat.eq_or_lt_of_le hm with e | e
      · subst e; exact hx
      · exact kl_trans (List.pairwise_iff_getElem.1 h m j (by omega) hj e) hx
    have h1 : (l.take (j + 1)).filter (fun x => kl x.key k) = l.take (j + 1) := List.filter_eq_self.2 fun x hx => by
      obtain ⟨m, hm, rfl⟩ := List.getElem_of_mem hx
      rw [List.getElem_take]
      exact key m (by simp at hm; omega)
    have h2 : (lo l k).length = ((l.take (j + 1)).filter fun x => kl x.key k).length + ((l.drop (j + 1)).filter fun x => kl x.key k).length := by
      rw [← List.length_append, ← List.filter_append, List.take_append_drop]; rfl
    rw [h1, List.length_take] at h2
    have hpk : posK l k = (lo l k).length := rfl
    omega
theorem has_at {l : List Kv} (h : Up l) {k : Ky} (hh : hasL l k = true) : ∃ hp : posK l k < l.length, l[posK l k].key = k := by
  rcases up_lo_hi h k with ⟨u, hu⟩ | ⟨_, hf⟩
  · have hl := congrArg List.length hu
    simp only [List.length_append, List.length_cons] at hl
    have hpk : posK l k = (lo l k).length := rfl
    refine ⟨by omega, ?_⟩
    have h2 : l[posK l k]? = some ⟨k, u⟩ := by
      rw [hu]
      rw [← hu]
      have := List.getElem?_append_right (l₁ := lo l k) (l₂ := ⟨k, u⟩ :: hi l k) (i := posK l k) (Nat.le_refl _)
      rw [← hu] at this
      rw [this]; simp
    rw [List.getElem?_eq_getElem (by omega)] at h2
    rw [Option.some.inj h2]
  · rw [hf] at hh; cases hh
theorem at_has {l : List Kv} (h : Up l) {k : Ky} {j : Nat} (hj : j < l.length) (he : l[j].key = k) : hasL l k = true ∧ j = posK l k := by
  refine ⟨by unfold hasL; rw [List.any_eq_true]; exact ⟨l[j], List.getElem_mem hj, decide_eq_true he⟩, ?_⟩
  rcases Nat.lt_trichotomy j (posK l k) with h1 | h1 | h1
  · have := pos_lt h hj h1; rw [he, kl_irr] at this; cases this
  · exact h1
  · have h2 := List.pairwise_iff_getElem.1 h (posK l k) j (by omega) hj h1
    rw [he] at h2
    have := pos_ge h (k := k) (j := posK l k) (by omega) (Nat.le_refl _)
    rw [h2] at this; cases this
abbrev ndC (p : Nat) (S Q : SV) : HProp := cel p [S.v, Q.v] 81
def nodeA : (d : Nat) → Nat → T d → HProp
  | 0, p, t => hex fun g : SV × SV => stars [ndC p g.1 g.2, slc tKv true g.1 (tks 0 t), slc tNd true g.2 []]
  | d + 1, p, t => hex fun g : SV × SV × List (Nat × T d) => star (pur (g.2.2.map (·.2) = t.2)) (stars [ndC p g.1 g.2.1, slc tKv true g.1 t.1, slc tNd true g.2.1 (g.2.2.map fun e => some e.1), stars (g.2.2.map fun e => nodeA d e.1 e.2)])
abbrev ndE (d : Nat) (e : Nat × T d) : HProp := nodeA d e.1 e.2
theorem Ent.leafA {p : Nat} {t : T 0} {S Q : SV} {L : List HProp} : Ent (ndC p S Q :: slc tKv true S (tks 0 t) :: slc tNd true Q [] :: L) (nodeA 0 p t :: L) := fun E w h => by
  have h1 := Sat.rot (A := [ndC p S Q, slc tKv true S (tks 0 t), slc tNd true Q []]) (B := L) h
  have h3 : Sat E w (stars [ndC p S Q, slc tKv true S (tks 0 t), slc tNd true Q []] :: L) := Sat.rot (A := L) h1.fold
  exact h3.mkex (f := fun g : SV × SV => stars [ndC p g.1 g.2, slc tKv true g.1 (tks 0 t), slc tNd true g.2 []]) (S, Q)
theorem Ent.innerA {d p : Nat} {K : List Kv} {C : List (T d)} {S Q : SV} {es : List (Nat × T d)} {L : List HProp} (hC : es.map (·.2) = C) : Ent (ndC p S Q :: slc tKv true S K :: slc tNd true Q (es.map fun e => some e.1) :: stars (es.map (ndE d)) :: L) (nodeA (d + 1) p (K, C) :: L) := fun E w h => by
  have h1 := Sat.rot (A := [ndC p S Q, slc tKv true S K, slc tNd true Q (es.map fun e => some e.1), stars (es.map (ndE d))]) (B := L) h
  have h3 : Sat E w (stars [ndC p S Q, slc tKv true S K, slc tNd true Q (es.map fun e => some e.1), stars (es.map (ndE d))] :: L) := Sat.rot (A := L) h1.fold
  have h4 : Sat E w (pur (es.map (·.2) = C) :: stars [ndC p S Q, slc tKv true S K, slc tNd true Q (es.map fun e => some e.1), stars (es.map (ndE d))] :: L) := h3.lay fun _ => hC
  exact (h4.mkstar).mkex (f := fun g : SV × SV × List (Nat × T d) => star (pur (g.2.2.map (·.2) = C)) (stars [ndC p g.1 g.2.1, slc tKv true g.1 K, slc tNd true g.2.1 (g.2.2.map fun e => some e.1), stars (g.2.2.map fun e => nodeA d e.1 e.2)])) (S, Q, es)
theorem Sat.leaf_out {E w : World} {p : Nat} {t : T 0} {L : List HProp} (h : Sat E w (nodeA 0 p t :: L)) : ∃ g : SV × SV, Sat E w (ndC p g.1 g.2 :: slc tKv true g.1 (tks 0 t) :: slc tNd true g.2 [] :: L) := by
  obtain ⟨g, hg⟩ := Sat.ex (f := fun g : SV × SV => stars [ndC p g.1 g.2, slc tKv true g.1 (tks 0 t), slc tNd true g.2 []]) h
  exact ⟨g, Sat.rot (A := L) (hg.rot (A := [_]) (B := L)).unfold⟩
theorem Sat.inner_out {E w : World} {d p : Nat} {t : T (d + 1)} {L : List HProp} (h : Sat E w (nodeA (d + 1) p t :: L)) : ∃ g : { g : SV × SV × List (Nat × T d) // g.2.2.map (·.2) = t.2 }, Sat E w (ndC p g.1.1 g.1.2.1 :: slc tKv true g.1.1 t.1 :: slc tNd true g.1.2.1 (g.1.2.2.map fun e => some e.1) :: stars (g.1.2.2.map (ndE d)) :: L) := by
  obtain ⟨g, hg⟩ := Sat.ex (f := fun g : SV × SV × List (Nat × T d) => star (pur (g.2.2.map (·.2) = t.2)) (stars [ndC p g.1 g.2.1, slc tKv true g.1 t.1, slc tNd true g.2.1 (g.2.2.map fun e => some e.1), stars (g.2.2.map fun e => nodeA d e.1 e.2)])) h
  obtain ⟨hm, h2⟩ := hg.star.fact
  exact ⟨⟨g, hm⟩, Sat.rot (A := L) (h2.rot (A := [_]) (B := L)).unfold⟩
theorem J.leaf {P : Program} {E : World} {n : Nat} {c : Code} {Q : Post} {ρ : Env} {p : Nat} {t : T 0} {L : List HProp} (h : ∀ S R, J P E n c Q ρ (ndC p S R :: slc tKv true S (tks 0 t) :: slc tNd true R [] :: L)) : J P E n c Q ρ (nodeA 0 p t :: L) :=
  J.open (fun _ hs => Sat.leaf_out hs) fun g => h g.1 g.2
theorem J.inner {P : Program} {E : World} {n : Nat} {c : Code} {Q : Post} {ρ : Env} {d p : Nat} {t : T (d + 1)} {L : List HProp} (h : ∀ (S R : SV) (es : List (Nat × T d)), es.map (·.2) = t.2 → J P E n c Q ρ (ndC p S R :: slc tKv true S t.1 :: slc tNd true R (es.map fun e => some e.1) :: stars (es.map (ndE d)) :: L)) : J P E n c Q ρ (nodeA (d + 1) p t :: L) :=
  J.open (fun _ hs => Sat.inner_out hs) fun g => h g.1.1 g.1.2.1 g.1.2.2 g.2
attribute [local irreducible] J JL QOp JOp seqQ blockQ loopQ retQ slc cel hex star pur stars Does RV Ent pAt scopeQ
theorem cmps_ok (E : World) (a b : Ky) : Does Tryz.prog E 78 [str a, str b] [] fun v L => v = .int .i64 (Lib.compareBytes a b) ∧ L = [] := by
  have hf : CmpFn Tryz.prog 86 := ⟨_, Tryz.func86, by kernel_rfl, by kernel_rfl, by kernel_rfl, by kernel_rfl⟩
  refine Does.of Tryz.func78 rfl Tryz.ntmps78 rfl rfl fun F => ?_
  refine J.norm ?_
  refine J_seq ?_
  refine J_region ?_
  refine L_q (Q_assign rfl) rfl rfl rfl ?_
  refine JL_nil ?_
  refine seqQ_normal ?_
  refine J_seq ?_
  refine J_region ?_
  refine L_q (Q_move rfl) rfl rfl rfl ?_
  refine L_q (Q_move rfl) rfl rfl rfl ?_
  refine L_o rfl rfl rfl (O_cmp hf rfl rfl ?_)
  refine JL.norm ?_
  refine L_q (Q_assign rfl) rfl rfl rfl ?_
  refine JL_nil ?_
  refine seqQ_normal ?_
  refine J_ret ?_
  exact retQ_ret _ [] (.cons (RV_tmp rfl) .nil) ⟨rfl, rfl⟩ (Ent.refl _)
theorem compare_ok (E : World) (a b : Ky) : Does Tryz.prog E 66 [str a, str b] [] fun v L => v = .int .i64 (Lib.compareBytes a b) ∧ L = [] := by
  refine Does.of Tryz.func66 rfl Tryz.ntmps66 rfl rfl fun F => ?_
  refine J.norm ?_
  refine J_seq ?_
  refine J_region ?_
  refine L_q (Q_assign rfl) rfl rfl rfl ?_
  refine JL_nil ?_
  refine seqQ_normal ?_
  refine J_seq ?_
  refine J_region ?_
  refine L_q (Q_move rfl) rfl rfl rfl ?_
  refine L_q (Q_move rfl) rfl rfl rfl ?_
  refine L_o rfl rfl rfl (O_call [] [0] (cmps_ok E a b) rfl rfl ?_)
  rintro _ _ ⟨rfl, rfl⟩
  refine JL.norm ?_
  refine L_q (Q_assign rfl) rfl rfl rfl ?_
  refine JL_nil ?_
  refine seqQ_normal ?_
  refine J_ret ?_
  exact retQ_ret _ [] (.cons (RV_tmp rfl) .nil) ⟨rfl, rfl⟩ (Ent.refl _)
theorem find1_ok (E : World) (x : Kv) (c : Nat) (k : Ky) : Does Tryz.prog E 65 [.agg (kvV x).toArray, .pointer (some ⟨c, 0, none⟩)] [cel c [str k] 9] fun v L => v = .int .i64 (Lib.compareBytes x.key k) ∧ L = [cel c [str k] 9] := by
  refine Does.of Tryz.func65 rfl Tryz.ntmps65 rfl rfl fun F => ?_
  refine J.norm ?_
  refine J_seq ?_
  refine J_region ?_
  refine L_o rfl rfl rfl (O_box rfl fun b2 => ?_)
  refine L_q (Q_assign rfl) rfl rfl rfl ?_
  refine JL_nil ?_
  refine seqQ_normal ?_
  refine J_seq ?_
  refine J_region ?_
  refine L_q (Q_fa0 rfl) rfl rfl rfl ?_
  refine L_q (Q_ld 0 rfl rfl rfl rfl) rfl rfl rfl ?_
  refine L_q (Q_ld 1 rfl rfl rfl rfl) rfl rfl rfl ?_
  refine L_o rfl rfl rfl (O_call [] [0,1,2] (compare_ok E x.key k) rfl rfl ?_)
  rintro _ _ ⟨rfl, rfl⟩
  refine JL.norm ?_
  refine L_q (Q_assign rfl) rfl rfl rfl ?_
  refine JL_nil ?_
  refine seqQ_normal ?_
  refine J_ret ?_
  exact retQ_ret _ [cel c [str k] 9] (.cons (RV_tmp rfl) .nil) ⟨rfl, rfl⟩ (Ent.re [1, 2] rfl)
theorem search_ok (E : World) (S : SV) (l : List Kv) (c : Nat) (k : Ky) (hl : l.length ≤ 1000) (hs : Up l) : Does Tryz.prog E 64 [S.v, .func (.func 65) #[] #[.pointer (some ⟨c, 0, none⟩)]] [slc tKv true S l, cel c [str k] 9]
    fun v L => v = .tuple #[.int .i64 (posK l k : Int), .bool (hasL l k)] ∧ L = [slc tKv true S l, cel c [str k] 9] := by
  have hpl := pos_le l k
  refine Does.of Tryz.func64 rfl Tryz.ntmps64 rfl rfl fun F => ?_
  refine J.norm ?_
  refine J_seq ?_
  refine J_region ?_
  refine L_q (Q_assign rfl) rfl rfl rfl ?_
  refine L_q (Q_assign rfl) rfl rfl rfl ?_
  refine JL_nil ?_
  refine seqQ_normal ?_
  refine J_seq ?_
  refine J_region ?_
  refine L_q (Q_move rfl) rfl rfl rfl ?_
  refine L_q (Q_lenAt 0 rfl rfl) rfl rfl rfl ?_
  refine L_q (Q_assign rfl) rfl rfl rfl ?_
  refine L_q (Q_assign rfl) rfl rfl rfl ?_
  refine JL_nil ?_
  refine seqQ_normal ?_
  refine J_seq ?_
  refine J_block ?_
  refine J_loop (fun i : Nat × Nat => i.1 ≤ posK l k ∧ posK l k ≤ i.2 ∧ i.2 ≤ l.length ∧ (hasL l k = true → posK l k < i.2)) (fun i => [(0, S.v), (1, .func (.func 65) #[] #[.pointer (some ⟨c, 0, none⟩)]), (6, .int .i64 (i.1 : Int)), (7, .int .i64 (i.2 : Int))]) (fun _ => [slc tKv true S l, cel c [str k] 9, F]) (fun i => i.2 - i.1) (0, l.length) ⟨Nat.zero_le _, hpl, Nat.le_refl _, fun h => (has_at hs h).1⟩ ⟨rfl, rfl, rfl, rfl, trivial⟩ (Ent.refl _) ?_
  rintro ⟨lw, hg⟩ ⟨i1, i2, i3, i4⟩
  dsimp only at i1 i2 i3 i4 ⊢
  refine J_seq ?_
  refine J_seq ?_
  refine J_region ?_
  refine L_q (Q_move rfl) rfl rfl rfl ?_
  refine L_q (Q_move rfl) rfl rfl rfl ?_
  refine L_q (Q_lss rfl rfl) rfl rfl rfl ?_
  refine JL_nil ?_
  refine seqQ_normal ?_
  refine J_condD rfl (fun h => ?_) (fun h => ?_)
  · have hlh : lw < hg := by omega
    have hq : ((lw : Int) + (hg : Int)).tdiv 2 = (((lw + hg) / 2 : Nat) : Int) := by
      have := Int.tdiv_eq_ediv_of_nonneg (a := (lw : Int) + hg) (b := 2) (by omega)
      omega
    have hm1 : lw ≤ (lw + hg) / 2 ∧ (lw + hg) / 2 < hg := by omega
    refine J_skip ?_
    refine seqQ_normal ?_
    refine J_block ?_
    refine J_seq ?_
    refine J_region ?_
    refine L_q (Q_move rfl) rfl rfl rfl ?_
    refine L_q (Q_move rfl) rfl rfl rfl ?_
    refine L_q (Q_add rfl rfl (by first | exact IntWalk.i64_in _ (by omega) | exact IntWalk.u8_in _ (by omega) | exact IntWalk.u32_in _ (by omega) | exact IntWalk.u64_in _ (by omega) | rfl)) rfl rfl rfl ?_
    refine L_q (Q_quo (r := (((lw + hg) / 2 : Nat) : Int)) rfl rfl (by decide) (by rw [hq]; exact IntWalk.i64_in _ (by omega))) rfl rfl rfl ?_
    refine L_q (Q_assign rfl) rfl rfl rfl ?_
    refine JL_nil ?_
    refine seqQ_normal ?_
    refine J_seq ?_
    generalize (lw + hg) / 2 = mid at *
    have hmid : mid < l.length := by omega
    have hc := find1_ok E l[mid] c k
    rw [cmp_kl] at hc
    refine J_region ?_
    refine L_q (Q_move rfl) rfl rfl rfl ?_
    refine L_q (Q_move rfl) rfl rfl rfl ?_
    refine L_q (Q_move rfl) rfl rfl rfl ?_
    refine L_q (Q_ixAt 0 mid rfl rfl rfl rfl hmid rfl) rfl rfl rfl ?_
    refine L_q (Q_ldEAAt 0 mid 0 (vs := kvV l[mid]) rfl rfl rfl rfl hmid (by decide) rfl) rfl rfl rfl ?_
    refine L_o rfl rfl rfl (O_dyn [1] [0,2] rfl rfl rfl hc rfl ?_)
    rintro _ _ ⟨rfl, rfl⟩
    refine JL.norm ?_
    refine L_q (Q_assign rfl) rfl rfl rfl ?_
    refine JL_nil ?_
    refine seqQ_normal ?_
    refine J_seq ?_
    refine J_seq ?_
    rcases kl_tri l[mid].key k with e | e | e
    · have hp : mid < posK l k := by
        rcases Nat.lt_or_ge mid (posK l k) with h2 | h2
        · exact h2
        · have := pos_ge hs hmid h2; rw [e] at this; cases this
      rw [if_pos e]
      refine J_region ?_
      refine L_q (Q_move rfl) rfl rfl rfl ?_
      refine L_q ((Q_eql rfl rfl).as (v' := .bool false) rfl) rfl rfl rfl ?_
      refine JL_nil ?_
      refine seqQ_normal ?_
      refine J_condF rfl ?_
      refine J_skip ?_
      refine seqQ_normal ?_
      refine J_seq ?_
      refine J_region ?_
      refine L_q (Q_move rfl) rfl rfl rfl ?_
      refine L_q ((Q_lss rfl rfl).as (v' := .bool true) rfl) rfl rfl rfl ?_
      refine JL_nil ?_
      refine seqQ_normal ?_
      refine J_condT rfl ?_
      refine J_region ?_
      refine L_q (Q_move rfl) rfl rfl rfl ?_
      refine L_q (Q_add rfl rfl (by first | exact IntWalk.i64_in _ (by omega) | exact IntWalk.u8_in _ (by omega) | exact IntWalk.u32_in _ (by omega) | exact IntWalk.u64_in _ (by omega) | rfl)) rfl rfl rfl ?_
      refine L_q (Q_assign rfl) rfl rfl rfl ?_
      refine JL_nil ?_
      refine blockQ_normal ?_
      exact loopQ_normal (mid + 1, hg) ⟨hp, i2, i3, i4⟩ (by simp only; omega) ⟨rfl, rfl, rfl, rfl, trivial⟩ (Ent.re [1, 0, 2] rfl)
    · obtain ⟨h1, h2⟩ := at_has hs hmid e
      rw [e, kl_irr, if_neg (by simp), if_neg (by simp)]
      refine J_region ?_
      refine L_q (Q_move rfl) rfl rfl rfl ?_
      refine L_q ((Q_eql rfl rfl).as (v' := .bool true) rfl) rfl rfl rfl ?_
      refine JL_nil ?_
      refine seqQ_normal ?_
      refine J_condT rfl ?_
      refine J_seq ?_
      refine J_region ?_
      refine L_q (Q_move rfl) rfl rfl rfl ?_
      refine L_q (Q_assign rfl) rfl rfl rfl ?_
      refine L_q (Q_assign rfl) rfl rfl rfl ?_
      refine JL_nil ?_
      refine seqQ_normal ?_
      refine J_ret ?_
      refine seqQ_ret ?_
      refine blockQ_ret ?_
      refine loopQ_ret ?_
      refine blockQ_ret ?_
      refine seqQ_ret ?_
      exact retQ_ret _ [slc tKv true S l, cel c [str k] 9] (.cons (RV_tmp rfl) (.cons (RV_tmp rfl) .nil)) ⟨by rw [h1, ← h2]; rfl, rfl⟩ (Ent.re [1, 0, 2] rfl)
    · have hp : posK l k ≤ mid := by
        rcases Nat.lt_or_ge mid (posK l k) with h2 | h2
        · have := pos_lt hs hmid h2; rw [kl_asymm e] at this; cases this
        · exact h2
      have hp2 : hasL l k = true → posK l k < mid := fun hh => by
        obtain ⟨h3, h4⟩ := has_at hs hh
        rcases Nat.eq_or_lt_of_le hp with h5 | h5
        · simp only [h5] at h4; rw [h4, kl_irr] at e; cases e
        · exact h5
      rw [kl_asymm e, if_neg (by simp), if_pos e]
      refine J_region ?_
      refine L_q (Q_move rfl) rfl rfl rfl ?_
      refine L_q ((Q_eql rfl rfl).as (v' := .bool false) rfl) rfl rfl rfl ?_
      refine JL_nil ?_
      refine seqQ_normal ?_
      refine J_condF rfl ?_
      refine J_skip ?_
      refine seqQ_normal ?_
      refine J_seq ?_
      refine J_region ?_
      refine L_q (Q_move rfl) rfl rfl rfl ?_
      refine L_q ((Q_lss rfl rfl).as (v' := .bool false) rfl) rfl rfl rfl ?_
      refine JL_nil ?_
      refine seqQ_normal ?_
      refine J_condF rfl ?_
      refine J_region ?_
      refine L_q (Q_move rfl) rfl rfl rfl ?_
      refine L_q (Q_assign rfl) rfl rfl rfl ?_
      refine JL_nil ?_
      refine blockQ_normal ?_
      exact loopQ_normal (lw, mid) ⟨i1, hp, by simp only; omega, hp2⟩ (by simp only; omega) ⟨rfl, rfl, rfl, rfl, trivial⟩ (Ent.re [1, 0, 2] rfl)
  · obtain rfl : lw = posK l k := by omega
    have hf : hasL l k = false := by
      cases hx : hasL l k with
      | false => rfl
      | true => have := i4 hx; omega
    refine J_exit ?_
    refine seqQ_exit ?_
    refine loopQ_exit ?_
    refine blockQ_hit ?_
    refine seqQ_normal ?_
    refine J_seq ?_
    refine J_region ?_
    refine L_q (Q_move rfl) rfl rfl rfl ?_
    refine L_q (Q_assign rfl) rfl rfl rfl ?_
    refine L_q (Q_assign rfl) rfl rfl rfl ?_
    refine JL_nil ?_
    refine seqQ_normal ?_
    refine J_ret ?_
    exact retQ_ret _ [slc tKv true S l, cel c [str k] 9] (.cons (RV_tmp rfl) (.cons (RV_tmp rfl) .nil)) ⟨by rw [hf]; rfl, rfl⟩ (Ent.refl _)
theorem find_ok (E : World) (p : Nat) (S R : SV) (l : List Kv) (k : Ky) (hl : l.length ≤ 1000) (hs : Up l) : Does Tryz.prog E 44 [.pointer (some ⟨p, 0, none⟩), str k] [ndC p S R, slc tKv true S l] fun v L => v = .tuple #[.int .i64 (posK l k : Int), .bool (hasL l k)] ∧ L = [ndC p S R, slc tKv true S l] := by
  refine Does.of Tryz.func44 rfl Tryz.ntmps44 rfl rfl fun F => ?_
  refine J.norm ?_
  refine J_seq ?_
  refine J_region ?_
  refine L_o rfl rfl rfl (O_box rfl fun b3 => ?_)
  refine L_q (Q_assign rfl) rfl rfl rfl ?_
  refine L_q (Q_assign rfl) rfl rfl rfl ?_
  refine JL_nil ?_
  refine seqQ_normal ?_
  refine J_seq ?_
  refine J_region ?_
  refine L_q (Q_move rfl) rfl rfl rfl ?_
  refine L_q (Q_nilCheck rfl) rfl rfl rfl ?_
  refine L_q (Q_fa0 rfl) rfl rfl rfl ?_
  refine L_q (Q_ld 1 rfl rfl rfl rfl) rfl rfl rfl ?_
  refine L_q (Q_makeFunc (xs := []) (ys := [.tmp 3]) (vs := []) (us := [.pointer (some ⟨b3, 0, none⟩)]) rfl rfl) rfl rfl rfl ?_
  refine L_o rfl rfl rfl (O_call [2,0] [1,3] (search_ok E S l b3 k hl hs) rfl rfl ?_)
  rintro _ _ ⟨rfl, rfl⟩
  refine JL.norm ?_
  refine L_q (Q_extract (v := .int .i64 (posK l k : Int)) rfl rfl) rfl rfl rfl ?_
  refine L_q (Q_extract (v := .bool (hasL l k)) rfl rfl) rfl rfl rfl ?_
  refine L_q (Q_assign rfl) rfl rfl rfl ?_
  refine L_q (Q_assign rfl) rfl rfl rfl ?_
  refine JL_nil ?_
  refine seqQ_normal ?_
  refine J_ret ?_
  exact retQ_ret _ [ndC p S R, slc tKv true S l] (.cons (RV_tmp rfl) (.cons (RV_tmp rfl) .nil)) ⟨rfl, rfl⟩ (Ent.re [2, 0, 3] rfl)
theorem leaf_ok (E : World) (p : Nat) (S R : SV) (qs : List (Option Nat)) : Does Tryz.prog E 45 [.pointer (some ⟨p, 0, none⟩)] [ndC p S R, slc tNd true R qs] fun v L => v = .bool (decide ((qs.length : Int) = 0)) ∧ L = [ndC p S R, slc tNd true R qs] := by
  refine Does.of Tryz.func45 rfl Tryz.ntmps45 rfl rfl fun F => ?_
  refine J.norm ?_
  refine J_seq ?_
  refine J_region ?_
  refine L_q (Q_assign rfl) rfl rfl rfl ?_
  refine JL_nil ?_
  refine seqQ_normal ?_
  refine J_seq ?_
  refine J_region ?_
  refine L_q (Q_move rfl) rfl rfl rfl ?_
  refine L_q (Q_nilCheck rfl) rfl rfl rfl ?_
  refine L_q (Q_fa0 rfl) rfl rfl rfl ?_
  refine L_q (Q_ld 0 rfl rfl rfl rfl) rfl rfl rfl ?_
  refine L_q (Q_lenAt 1 rfl rfl) rfl rfl rfl ?_
  refine L_q (Q_eql rfl rfl) rfl rfl rfl ?_
  refine L_q (Q_assign rfl) rfl rfl rfl ?_
  refine JL_nil ?_
  refine seqQ_normal ?_
  refine J_ret ?_
  exact retQ_ret _ [ndC p S R, slc tNd true R qs] (.cons (RV_tmp rfl) .nil) ⟨rfl, rfl⟩ (Ent.refl _)
end Go.Proofs.Bt
/- A node's children taken out and put back; a full child split. -/
set_option autoImplicit false
namespace Go.SL
theorem Ent.stars_split {A B L : List HProp} : Ent (stars (A ++ B) :: L) (stars A :: stars B :: L) := fun E w h => by
  have h1 : Sat E w (L ++ (A ++ B)) := (Sat.rot (A := [stars (A ++ B)]) (B := L) h).unfold
  rw [← List.append_assoc] at h1
  have h2 := h1.fold (A := L ++ A) (R := B)
  have h3 : Sat E w ([stars B] ++ (L ++ A)) := h2.rot
  rw [← List.append_assoc] at h3
  have h4 := h3.fold (A := [stars B] ++ L) (R := A)
  have h5 : Sat E w ([stars A] ++ ([stars B] ++ L)) := h4.rot
  exact h5
theorem Ent.stars_join {A B L : List HProp} : Ent (stars A :: stars B :: L) (stars (A ++ B) :: L) := fun E w h => by
  have h1 : Sat E w (([stars B] ++ L) ++ [stars A]) := Sat.rot (A := [stars A]) (B := [stars B] ++ L) h
  have h2 := h1.unfold
  rw [List.append_assoc] at h2
  have h3 : Sat E w ((L ++ A) ++ [stars B]) := Sat.rot (A := [stars B]) (B := L ++ A) h2
  have h4 := h3.unfold
  rw [List.append_assoc] at h4
  have h5 := h4.fold (A := L) (R := A ++ B)
  exact h5.rot
theorem Rd.begin {α : Type} {τ : Ty α} {w : World} {S : SV} {l : List α} (h : Rd τ w S l) (k : Nat) (hk : k ≤ l.length) : Rd τ w (S.sub τ.sz 0 k) (l.take k) := by
  have := h.sub 0 k (Nat.zero_le _) hk
  rwa [List.drop_zero] at this
theorem Rd.ends {α : Type} {τ : Ty α} {w : World} {S : SV} {l : List α} (h : Rd τ w S l) (k : Nat) (hk : k ≤ l.length) : Rd τ w (S.sub τ.sz k l.length) (l.drop k) := by
  have := h.sub k l.length hk (Nat.le_refl _)
  rwa [List.take_length] at this
end Go.SL
namespace Go.Proofs.Bt
open Go.SL
abbrev ptr (e : Option Nat) : Option Nat := e
abbrev pL {d : Nat} (es : List (Nat × T d)) : List (Option Nat) := es.map fun e => some e.1
theorem mid_get {α β : Type} (f : α → β) (A B : List α) (e : α) (h : A.length < ((A ++ e :: B).map f).length) : ((A ++ e :: B).map f)[A.length] = f e := by
  simp
theorem pL_app {d : Nat} (A B : List (Nat × T d)) (e : Nat × T d) : pL (A ++ e :: B) = pL A ++ some e.1 :: pL B := by simp [pL]
theorem pL_len {d : Nat} (A : List (Nat × T d)) : (pL A).length = A.length := by simp [pL]
theorem pl_get {P1 P2 : List (Option Nat)} {q : Option Nat} {i : Nat} (hi : P1.length = i) (h : i < (P1 ++ q :: P2).length) : (P1 ++ q :: P2)[i] = q := by
  subst hi; simp
/-- A look into a node. -/
theorem Sat.peek {E w : World} : ∀ {d p : Nat} {t : T d} {L : List HProp}, Sat E w (nodeA d p t :: L) → ∃ x : { x : SV × SV × HProp // ∀ L, Ent (ndC p x.1 x.2.1 :: slc tKv true x.1 (tks d t) :: x.2.2 :: L) (nodeA d p t :: L) }, Sat E w (ndC p x.1.1 x.1.2.1 :: slc tKv true x.1.1 (tks d t) :: x.1.2.2 :: L)
  | 0, p, t, L, h => by
    obtain ⟨g, hg⟩ := Sat.leaf_out h
    exact ⟨⟨(g.1, g.2, slc tNd true g.2 []), fun L => Ent.leafA⟩, hg⟩
  | d + 1, p, t, L, h => by
    obtain ⟨⟨g, hm⟩, hg⟩ := Sat.inner_out h
    refine ⟨⟨(g.1, g.2.1, star (slc tNd true g.2.1 (g.2.2.map fun e => some e.1)) (stars (g.2.2.map (ndE d)))), fun L E w h2 => ?_⟩, ?_⟩
    · have h3 := h2.pick [2, 0, 1] (by simp [okIdx]) |> fun _ => h2
      have h4 : Sat E w ([ndC p g.1 g.2.1, slc tKv true g.1 t.1] ++ star (slc tNd true g.2.1 (g.2.2.map fun e => some e.1)) (stars (g.2.2.map (ndE d))) :: L) := h2
      have h5 := Sat.rot h4
      have h6 := Sat.star h5
      have h7 : Sat E w ((slc tNd true g.2.1 (g.2.2.map fun e => some e.1) :: stars (g.2.2.map (ndE d)) :: L) ++ [ndC p g.1 g.2.1, slc tKv true g.1 t.1]) := h6
      exact Ent.innerA hm E w h7.rot
    · have h4 : Sat E w ([ndC p g.1 g.2.1, slc tKv true g.1 t.1] ++ (slc tNd true g.2.1 (g.2.2.map fun e => some e.1) :: stars (g.2.2.map (ndE d)) :: L)) := hg
      have h5 : Sat E w (slc tNd true g.2.1 (g.2.2.map fun e => some e.1) :: stars (g.2.2.map (ndE d)) :: (L ++ [ndC p g.1 g.2.1, slc tKv true g.1 t.1])) := h4.rot
      have h6 := Sat.mkstar h5
      have h7 : Sat E w ((star (slc tNd true g.2.1 (g.2.2.map fun e => some e.1)) (stars (g.2.2.map (ndE d))) :: L) ++ [ndC p g.1 g.2.1, slc tKv true g.1 t.1]) := h6
      exact h7.rot
theorem J.peek {P : Program} {E : World} {n : Nat} {c : Code} {Q : Post} {ρ : Env} {d p : Nat} {t : T d} {L : List HProp} (h : ∀ S R X, (∀ L, Ent (ndC p S R :: slc tKv true S (tks d t) :: X :: L) (nodeA d p t :: L)) → J P E n c Q ρ (ndC p S R :: slc tKv true S (tks d t) :: X :: L)) : J P E n c Q ρ (nodeA d p t :: L) :=
  J.open (fun _ hs => Sat.peek hs) fun x => h x.1.1 x.1.2.1 x.1.2.2 x.2
def spL (d : Nat) : T d → T d × T d := match d with
  | 0 => fun t => ((tks 0 t).take 3, (tks 0 t).drop 4)
  | _ + 1 => fun t => ((t.1.take 3, t.2.take 4), (t.1.drop 4, t.2.drop 4))
theorem seven {t : List Kv} (h : t.length = 7) : t = t.take 3 ++ t[3] :: t.drop 4 := by
  rw [← List.drop_eq_getElem_cons, List.take_append_drop]
theorem take37 {t : List Kv} (h : t.length = 7) : (t.take 3).length = 3 ∧ (t.drop 4).length = 3 := by simp; omega
theorem spL_ok {d : Nat} {t : T d} (hw : wf 3 d t) (h7 : (tks d t).length = 7) : flat d t = flat d (spL d t).1 ++ (tks d t)[3] :: flat d (spL d t).2 ∧ wf 3 d (spL d t).1 ∧ wf 3 d (spL d t).2 ∧ (tks d (spL d t).1).length = 3 ∧ (tks d (spL d t).2).length = 3 := by
  cases d with
  | zero =>
    have h := take37 h7
    exact ⟨seven h7, ⟨Nat.le_of_eq h.1.symm, Nat.le_trans (Nat.le_of_eq h.1) (by decide)⟩, ⟨Nat.le_of_eq h.2.symm, Nat.le_trans (Nat.le_of_eq h.2) (by decide)⟩, h.1, h.2⟩
  | succ d =>
    obtain ⟨K, C⟩ := t
    have h7 : K.length = 7 := h7
    obtain ⟨_, _, h3, h4⟩ := hw
    simp only at h3 h4
    refine ⟨?_, ⟨?_, ?_, ?_, fun c hc => h4 c (List.mem_of_mem_take hc)⟩, ⟨?_, ?_, ?_, fun c hc => h4 c (List.mem_of_mem_drop hc)⟩, ?_, ?_⟩
    · simp only [flat, spL, tks]
      have := ileave_join (K.take 3) (K.drop 4) K[3] ((C.take 4).map (flat d)) ((C.drop 4).map (flat d)) (by simp; omega)
      rw [← this, ← List.map_append, List.take_append_drop, ← seven h7]
    all_goals (simp only [spL, tks, List.length_take, List.length_drop]; omega)
theorem two_in {d : Nat} (A B : List (Nat × T d)) (q b : Nat) (c1 c2 : T d) (X Y Z F : HProp) : Ent [nodeA d b c2, stars ((A ++ B).map (ndE d)), nodeA d q c1, X, Y, Z, F] ([X, Y, Z, stars ((A ++ (q, c1) :: (b, c2) :: B).map (ndE d))] ++ [F]) :=
  (Ent.mid_in (ndE d) A (b, c2) B).trans ((Ent.re [1, 0, 2, 3, 4, 5] rfl).trans ((Ent.mid_in (ndE d) A (q, c1) ((b, c2) :: B)).trans (Ent.re [1, 2, 3, 0, 4] rfl)))
attribute [local irreducible] J JL QOp JOp seqQ blockQ loopQ retQ slc cel hex star pur stars Does RV Ent pAt scopeQ
attribute [local irreducible] nodeA
theorem split_ok (E : World) (d p : Nat) (S R : SV) (K1 K2 : List Kv) (A B : List (Nat × T d)) (e : Nat × T d) (hA : K1.length = A.length) (h7 : (tks d e.2).length = 7) (hw : wf 3 d e.2) (hK : K1.length + K2.length ≤ 1000) (hB : A.length + B.length ≤ 1000) :
    Does Tryz.prog E 73 [.pointer (some ⟨p, 0, none⟩), .int .i64 (A.length : Int)] [ndC p S R, slc tKv true S (K1 ++ K2), slc tNd true R (pL (A ++ e :: B)), stars ((A ++ e :: B).map (ndE d))]
    fun v L => v = .tuple #[] ∧ ∃ (S' R' : SV) (q : Nat), L = [ndC p S' R', slc tKv true S' (K1 ++ (tks d e.2)[3] :: K2), slc tNd true R' (pL (A ++ (e.1, (spL d e.2).1) :: (q, (spL d e.2).2) :: B)), stars ((A ++ (e.1, (spL d e.2).1) :: (q, (spL d e.2).2) :: B).map (ndE d))] := by
  obtain ⟨q0, c⟩ := e
  dsimp only at h7 hw ⊢
  have hPl : A.length < (pL (A ++ (q0, c) :: B)).length := by rw [pL_len]; simp
  have hPg : (pL (A ++ (q0, c) :: B))[A.length] = some q0 := mid_get _ A B (q0, c) hPl
  refine Does.of Tryz.func73 rfl Tryz.ntmps73 rfl rfl fun F => ?_
  refine J.norm ?_
  refine J_seq ?_
  refine J_region ?_
  refine L_q (Q_move rfl) rfl rfl rfl ?_
  refine L_q (Q_nilCheck rfl) rfl rfl rfl ?_
  refine L_q (Q_fa0 rfl) rfl rfl rfl ?_
  refine L_q (Q_ld 0 rfl rfl rfl rfl) rfl rfl rfl ?_
  refine L_q (Q_move rfl) rfl rfl rfl ?_
  refine L_q (Q_ixAt 2 A.length rfl rfl rfl rfl hPl rfl) rfl rfl rfl ?_
  refine L_q (Q_ldEAt 2 A.length 0 (v := .pointer (some ⟨q0, 0, none⟩)) rfl rfl rfl rfl hPl (by decide) (by rw [hPg]; rfl)) rfl rfl rfl ?_
  refine L_q (Q_assign rfl) rfl rfl rfl ?_
  refine JL_nil ?_
  refine seqQ_normal ?_
  refine J_seq ?_
  refine J.ent ((Ent.re [3, 0, 1, 2, 4] rfl).trans (Ent.mid_out (ndE d) A (q0, c) B)) ?_
  have hAle : A.length ≤ (K1 ++ K2).length := by simp; omega
  have eK : ∀ m : Kv, (K1 ++ K2).take A.length ++ m :: (K1 ++ K2).drop A.length = K1 ++ m :: K2 := fun m => by
    rw [← hA, List.take_left, List.drop_left]
  have hPle : A.length + 1 ≤ (pL (A ++ (q0, c) :: B)).length := by rw [pL_len]; simp
  have hPb : (pL (A ++ (q0, c) :: B)).length ≤ 100000 := by rw [pL_len]; simp; omega
  have eP : ∀ (q : Nat) (c1 c2 : T d), (pL (A ++ (q0, c) :: B)).take (A.length + 1) ++ some q :: (pL (A ++ (q0, c) :: B)).drop (A.length + 1) = pL (A ++ (q0, c1) :: (q, c2) :: B) := fun q c1 c2 => by
    rw [pL_app, pL_app]
    have e1 : (pL A ++ some q0 :: pL B).take (A.length + 1) = pL A ++ [some q0] := by
      have := List.take_left (l₁ := pL A ++ [some q0]) (l₂ := pL B)
      simp only [List.length_append, pL_len, List.length_singleton, List.append_assoc, List.singleton_append] at this
      exact this
    have e2 : (pL A ++ some q0 :: pL B).drop (A.length + 1) = pL B := by
      have := List.drop_left (l₁ := pL A ++ [some q0]) (l₂ := pL B)
      simp only [List.length_append, pL_len, List.length_singleton, List.append_assoc, List.singleton_append] at this
      exact this
    rw [e1, e2]; simp [pL]
  cases d with
  | zero =>
    refine J.leaf fun Sc Rc => ?_
    dsimp only at *
    have h3l : 3 < (tks 0 c).length := by omega
    refine J_region ?_
    refine L_q (Q_move rfl) rfl rfl rfl ?_
    refine L_q (Q_nilCheck rfl) rfl rfl rfl ?_
    refine L_q (Q_fa0 rfl) rfl rfl rfl ?_
    refine L_q (Q_ld 0 rfl rfl rfl rfl) rfl rfl rfl ?_
    refine L_q (Q_ixAt 1 3 rfl rfl rfl rfl h3l rfl) rfl rfl rfl ?_
    refine L_q (Q_ldEAAt 1 3 0 (vs := kvV (tks 0 c)[3]) rfl rfl rfl rfl h3l (by decide) rfl) rfl rfl rfl ?_
    refine L_o rfl rfl rfl (O_alloc fun b5 => ?_)
    refine L_s rfl rfl (O_stW 0 rfl rfl rfl rfl ?_)
    refine JL.norm ?_
    refine JL_nil ?_
    refine seqQ_normal ?_
    refine J_seq ?_
    refine J_region ?_
    refine L_q (Q_move rfl) rfl rfl rfl ?_
    refine L_q (Q_nilCheck rfl) rfl rfl rfl ?_
    refine L_q (Q_fa0 rfl) rfl rfl rfl ?_
    refine L_q (Q_ld 1 rfl rfl rfl rfl) rfl rfl rfl ?_
    refine L_q (Q_slL (τ := tKv) 4 (fun w h => h.rd 2 rfl) rfl rfl rfl (by omega) rfl) rfl rfl rfl ?_
    refine L_o rfl rfl rfl (O_call [2] [0,1,3,4,5,6,7,8] (kvcloneG E (slc tKv true Sc (tks 0 c)) (Sc.sub tKv.sz 4 (tks 0 c).length) ((tks 0 c).drop 4) (fun w L h => (h.rd 0 rfl).ends 4 (by omega)) (by simp; omega)) rfl rfl ?_)
    rintro _ _ ⟨V, rfl, rfl⟩
    refine JL.norm ?_
    refine L_q (Q_build rfl) rfl rfl rfl ?_
    refine L_o rfl rfl rfl (O_box rfl fun b27 => ?_)
    refine L_q (Q_assign rfl) rfl rfl rfl ?_
    refine JL_nil ?_
    refine seqQ_normal ?_
    refine J_seq ?_
    refine J_seq ?_
    refine J_region ?_
    refine L_q (Q_move rfl) rfl rfl rfl ?_
    refine L_o rfl rfl rfl (O_call [4,5] [0,1,2,3,6,7,8,9,10] (leaf_ok E q0 Sc Rc []) rfl rfl ?_)
    rintro _ _ ⟨rfl, rfl⟩
    refine JL.norm ?_
    refine L_q ((Q_not rfl).as (v' := .bool false) rfl) rfl rfl rfl ?_
    refine JL_nil ?_
    refine seqQ_normal ?_
    refine J_condF rfl ?_
    refine J_skip ?_
    refine seqQ_normal ?_
    refine J_seq ?_
    refine J_region ?_
    refine L_q (Q_move rfl) rfl rfl rfl ?_
    refine L_q (Q_move rfl) rfl rfl rfl ?_
    refine L_q (Q_nilCheck rfl) rfl rfl rfl ?_
    refine L_q (Q_fa0 rfl) rfl rfl rfl ?_
    refine L_q (Q_ld 0 rfl rfl rfl rfl) rfl rfl rfl ?_
    refine L_q (Q_slH (τ := tKv) 3 (fun w h => h.rd 3 rfl) rfl rfl rfl (by omega) rfl) rfl rfl rfl ?_
    refine L_o rfl rfl rfl (O_call [3] [0,1,2,4,5,6,7,8,9,10] (kvcloneG E (slc tKv true Sc (tks 0 c)) (Sc.sub tKv.sz 0 3) ((tks 0 c).take 3) (fun w L h => (h.rd 0 rfl).begin 3 (by omega)) (by simp; omega)) rfl rfl ?_)
    rintro _ _ ⟨V2, rfl, rfl⟩
    refine JL.norm ?_
    refine L_q (Q_nilCheck rfl) rfl rfl rfl ?_
    refine L_q (Q_fa0 rfl) rfl rfl rfl ?_
    refine L_s rfl rfl (O_st1 2 rfl rfl rfl rfl rfl ?_)
    refine JL.norm ?_
    refine JL_nil ?_
    refine seqQ_normal ?_
    refine J_seq ?_
    refine J_drawH [8,6] [0, 1, 2, 3, 4, 5, 6, 9, 10] (.quiet 0 (.quiet 1 (.quiet 2 (.quiet 3 (.quiet 4 (.quiet 5 (.quiet 6 (.loud 7 (.loud 8 (.quiet 9 (.quiet 10 (.loud 11 .done)))))))))))) Tryz.mixed (by kernel_rfl) (by kernel_rfl) (by repeat (first | exact retQ_noP | refine seqQ_noP ?_ | refine blockQ_noP ?_ | refine loopQ_noP ?_ | refine scopeQ_noP ?_ | (intro _ _ _ h; cases h.1))) ?_
    refine S_q (Ent.re [8,6] rfl) rfl (Q_move rfl) rfl rfl rfl ?_
    refine S_q (Ent.re [8,6] rfl) rfl (Q_move rfl) rfl rfl rfl ?_
    refine S_q (Ent.re [8,6] rfl) rfl (Q_nilCheck rfl) rfl rfl rfl ?_
    refine S_q (Ent.re [8,6] rfl) rfl (Q_fa0 rfl) rfl rfl rfl ?_
    refine S_q (Ent.re [8,6] rfl) rfl (Q_ld 0 rfl rfl rfl rfl) rfl rfl rfl ?_
    refine S_q (Ent.re [8,6] rfl) rfl (Q_move rfl) rfl rfl rfl ?_
    refine S_q (Ent.re [8,6] rfl) rfl (Q_ldA 1 rfl rfl rfl) rfl rfl rfl ?_
    refine S_o rfl rfl rfl rfl (O_litN (τ := tKv) (m := 1) (sz := 2) [(tks 0 c)[3]] rfl rfl rfl rfl rfl rfl (by decide) (by decide) (fun T => ⟨_, fun _ => ⟨Ent.reN [9,7] rfl, Ent.refl _⟩, ?_⟩))
    refine JS.norm ?_
    refine S_o rfl rfl rfl rfl (O_call [10,0] [1,2,3,4,5,6,7,8,9,11,12] (kvins_ok E S T (K1 ++ K2) (tks 0 c)[3] A.length hAle (by simp; omega)) rfl rfl ?_)
    (rintro _ _ ⟨S2, rfl, rfl⟩; refine ⟨_, fun _ => ⟨Ent.reN [9,7] rfl, Ent.refl _⟩, ?_⟩)
    refine JS.norm ?_
    refine S_q (Ent.re [9,7] rfl) rfl (Q_nilCheck rfl) rfl rfl rfl ?_
    refine S_q (Ent.re [9,7] rfl) rfl (Q_fa0 rfl) rfl rfl rfl ?_
    refine S_s rfl rfl rfl (O_st1 9 rfl rfl rfl rfl rfl ⟨[], free_no (by kernel_rfl), ?_⟩)
    refine JS.norm ?_
    refine S_nil ?_
    refine seqQ_normal ?_
    rw [eK]
    refine J_region ?_
    refine L_q (Q_move rfl) rfl rfl rfl ?_
    refine L_q (Q_move rfl) rfl rfl rfl ?_
    refine L_q (Q_nilCheck rfl) rfl rfl rfl ?_
    refine L_q (Q_fa0 rfl) rfl rfl rfl ?_
    refine L_q (Q_ld 9 rfl rfl rfl rfl) rfl rfl rfl ?_
    refine L_q (Q_move rfl) rfl rfl rfl ?_
    refine L_q (Q_add rfl rfl (by first | exact IntWalk.i64_in _ (by omega) | exact IntWalk.u8_in _ (by omega) | exact IntWalk.u32_in _ (by omega) | exact IntWalk.u64_in _ (by omega) | rfl)) rfl rfl rfl ?_
    refine L_q (Q_move rfl) rfl rfl rfl ?_
    refine L_o rfl rfl rfl (O_litN (τ := tNd) (m := 1) (sz := 1) [some b27] rfl rfl rfl rfl rfl rfl (by decide) (by decide) (fun T => ?_))
    refine JL.norm ?_
    refine L_o rfl rfl rfl (O_call [11,0] [1,2,3,4,5,6,7,8,9,10,12] (ndins_ok E R T (pL (A ++ (q0, c) :: B)) (some b27) (A.length + 1) hPle hPb) rfl rfl ?_)
    rintro _ _ ⟨R2, rfl, rfl⟩
    refine JL.norm ?_
    refine L_q (Q_nilCheck rfl) rfl rfl rfl ?_
    refine L_q (Q_fa0 rfl) rfl rfl rfl ?_
    refine L_s rfl rfl (O_st1 10 rfl rfl rfl rfl rfl ?_)
    refine JL.norm ?_
    refine JL_nil ?_
    rw [eP b27 (spL 0 c).1 (spL 0 c).2]
    refine retQ_normal [] _ .nil ⟨rfl, S2, R2, b27, rfl⟩ ?_
    refine (Ent.mk fun _ _ h => (h.lay_nil tNd true : Sat _ _ (slc tNd true SV.nil [] :: _))).trans ?_
    refine (Ent.re [7, 8, 0, 5, 4, 6, 10, 11, 2, 1, 12] rfl).trans ?_
    refine (Ent.leafA (t := (spL 0 c).2) (S := V) (Q := SV.nil)).trans ?_
    refine (Ent.re [1, 2, 3, 0, 4, 5, 6, 7, 8] rfl).trans ?_
    refine (Ent.leafA (t := (spL 0 c).1) (S := V2) (Q := Rc)).trans ?_
    refine (Ent.re [1, 2, 0, 3, 4, 5, 6] rfl).trans ?_
    exact two_in A B q0 b27 (spL 0 c).1 (spL 0 c).2 _ _ _ F
  | succ d =>
    have h7' : c.1.length = 7 := h7
    have hc8 : c.2.length = 8 := by have := hw.2.2.1; omega
    refine J.inner fun Sc Rc ces hces => ?_
    dsimp only at *
    have hcl : ces.length = 8 := by rw [← hc8, ← hces, List.length_map]
    have hpl8 : (pL ces).length = 8 := by rw [pL_len, hcl]
    have hlf := leaf_ok E q0 Sc Rc (pL ces)
    rw [hpl8] at hlf
    have h3l : 3 < c.1.length := by omega
    have hce : stars (ces.map (ndE d)) = stars ((ces.take 4).map (ndE d) ++ (ces.drop 4).map (ndE d)) := by rw [← List.map_append, List.take_append_drop]
    have hp4 : (pL ces).drop 4 = pL (ces.drop 4) := by simp [pL]
    have hp5 : (pL ces).take 4 = pL (ces.take 4) := by simp [pL]
    have hC4 : (ces.drop 4).map (·.2) = c.2.drop 4 := by rw [← hces, List.map_drop]
    have hC5 : (ces.take 4).map (·.2) = c.2.take 4 := by rw [← hces, List.map_take]
    refine J_region ?_
    refine L_q (Q_move rfl) rfl rfl rfl ?_
    refine L_q (Q_nilCheck rfl) rfl rfl rfl ?_
    refine L_q (Q_fa0 rfl) rfl rfl rfl ?_
    refine L_q (Q_ld 0 rfl rfl rfl rfl) rfl rfl rfl ?_
    refine L_q (Q_ixAt 1 3 rfl rfl rfl rfl h3l rfl) rfl rfl rfl ?_
    refine L_q (Q_ldEAAt 1 3 0 (vs := kvV c.1[3]) rfl rfl rfl rfl h3l (by decide) rfl) rfl rfl rfl ?_
    refine L_o rfl rfl rfl (O_alloc fun b5 => ?_)
    refine L_s rfl rfl (O_stW 0 rfl rfl rfl rfl ?_)
    refine JL.norm ?_
    refine JL_nil ?_
    refine seqQ_normal ?_
    refine J_seq ?_
    refine J_region ?_
    refine L_q (Q_move rfl) rfl rfl rfl ?_
    refine L_q (Q_nilCheck rfl) rfl rfl rfl ?_
    refine L_q (Q_fa0 rfl) rfl rfl rfl ?_
    refine L_q (Q_ld 1 rfl rfl rfl rfl) rfl rfl rfl ?_
    refine L_q (Q_slL (τ := tKv) 4 (fun w h => h.rd 2 rfl) rfl rfl rfl (by omega) rfl) rfl rfl rfl ?_
    refine L_o rfl rfl rfl (O_call [2] [0,1,3,4,5,6,7,8,9] (kvcloneG E (slc tKv true Sc c.1) (Sc.sub tKv.sz 4 c.1.length) (c.1.drop 4) (fun w L h => (h.rd 0 rfl).ends 4 (by omega)) (by simp; omega)) rfl rfl ?_)
    rintro _ _ ⟨V, rfl, rfl⟩
    refine JL.norm ?_
    refine L_q (Q_build rfl) rfl rfl rfl ?_
    refine L_o rfl rfl rfl (O_box rfl fun b27 => ?_)
    refine L_q (Q_assign rfl) rfl rfl rfl ?_
    refine JL_nil ?_
    refine seqQ_normal ?_
    refine J_seq ?_
    refine J_seq ?_
    refine J_region ?_
    refine L_q (Q_move rfl) rfl rfl rfl ?_
    refine L_o rfl rfl rfl (O_call [4,5] [0,1,2,3,6,7,8,9,10,11] hlf rfl rfl ?_)
    rintro _ _ ⟨rfl, rfl⟩
    refine JL.norm ?_
    refine L_q ((Q_not rfl).as (v' := .bool true) rfl) rfl rfl rfl ?_
    refine JL_nil ?_
    refine seqQ_normal ?_
    refine J_condT rfl ?_
    refine J_seq ?_
    refine J_region ?_
    refine L_q (Q_move rfl) rfl rfl rfl ?_
    refine L_q (Q_move rfl) rfl rfl rfl ?_
    refine L_q (Q_nilCheck rfl) rfl rfl rfl ?_
    refine L_q (Q_fa0 rfl) rfl rfl rfl ?_
    refine L_q (Q_ld 0 rfl rfl rfl rfl) rfl rfl rfl ?_
    refine L_q (Q_slL (τ := tNd) 4 (fun w h => h.rd 1 rfl) rfl rfl rfl (by omega) rfl) rfl rfl rfl ?_
    refine L_o rfl rfl rfl (O_call [1] [0,2,3,4,5,6,7,8,9,10,11] (ndcloneG E (slc tNd true Rc (pL ces)) (Rc.sub tNd.sz 4 (pL ces).length) ((pL ces).drop 4) (fun w L h => (h.rd 0 rfl).ends 4 (by omega)) (by simp; omega)) rfl rfl ?_)
    rintro _ _ ⟨W, rfl, rfl⟩
    refine JL.norm ?_
    refine L_q (Q_nilCheck rfl) rfl rfl rfl ?_
    refine L_q (Q_fa0 rfl) rfl rfl rfl ?_
    refine L_s rfl rfl (O_st1 3 rfl rfl rfl rfl rfl ?_)
    refine JL.norm ?_
    refine JL_nil ?_
    refine seqQ_normal ?_
    refine J_region ?_
    refine L_q (Q_move rfl) rfl rfl rfl ?_
    refine L_q (Q_move rfl) rfl rfl rfl ?_
    refine L_q (Q_nilCheck rfl) rfl rfl rfl ?_
    refine L_q (Q_fa0 rfl) rfl rfl rfl ?_
    refine L_q (Q_ld 2 rfl rfl rfl rfl) rfl rfl rfl ?_
    refine L_q (Q_slH (τ := tNd) 4 (fun w h => h.rd 0 rfl) rfl rfl rfl (by omega) rfl) rfl rfl rfl ?_
    refine L_o rfl rfl rfl (O_call [0] [1,2,3,4,5,6,7,8,9,10,11,12] (ndcloneG E (slc tNd true Rc (pL ces)) (Rc.sub tNd.sz 0 4) ((pL ces).take 4) (fun w L h => (h.rd 0 rfl).begin 4 (by omega)) (by simp; omega)) rfl rfl ?_)
    rintro _ _ ⟨W2, rfl, rfl⟩
    refine JL.norm ?_
    refine L_q (Q_nilCheck rfl) rfl rfl rfl ?_
    refine L_q (Q_fa0 rfl) rfl rfl rfl ?_
    refine L_s rfl rfl (O_st1 3 rfl rfl rfl rfl rfl ?_)
    refine JL.norm ?_
    refine JL_nil ?_
    refine seqQ_normal ?_
    refine J_seq ?_
    refine J.ent (Ent.re [1, 2, 3, 4, 5, 6, 7, 8, 9, 10, 11, 12, 13] rfl) ?_
    refine J_region ?_
    refine L_q (Q_move rfl) rfl rfl rfl ?_
    refine L_q (Q_move rfl) rfl rfl rfl ?_
    refine L_q (Q_nilCheck rfl) rfl rfl rfl ?_
    refine L_q (Q_fa0 rfl) rfl rfl rfl ?_
    refine L_q (Q_ld 2 rfl rfl rfl rfl) rfl rfl rfl ?_
    refine L_q (Q_slH (τ := tKv) 3 (fun w h => h.rd 4 rfl) rfl rfl rfl (by omega) rfl) rfl rfl rfl ?_
    refine L_o rfl rfl rfl (O_call [4] [0,1,2,3,5,6,7,8,9,10,11,12] (kvcloneG E (slc tKv true Sc c.1) (Sc.sub tKv.sz 0 3) (c.1.take 3) (fun w L h => (h.rd 0 rfl).begin 3 (by omega)) (by simp; omega)) rfl rfl ?_)
    rintro _ _ ⟨V2, rfl, rfl⟩
    refine JL.norm ?_
    refine L_q (Q_nilCheck rfl) rfl rfl rfl ?_
    refine L_q (Q_fa0 rfl) rfl rfl rfl ?_
    refine L_s rfl rfl (O_st1 4 rfl rfl rfl rfl rfl ?_)
    refine JL.norm ?_
    refine JL_nil ?_
    refine seqQ_normal ?_
    refine J_seq ?_
    refine J.ent (Ent.re [1, 2, 3, 4, 5, 6, 7, 8, 9, 10, 11, 12, 13] rfl) ?_
    refine J_drawH [9,6] [0, 1, 2, 3, 4, 5, 6, 9, 10] (.quiet 0 (.quiet 1 (.quiet 2 (.quiet 3 (.quiet 4 (.quiet 5 (.quiet 6 (.loud 7 (.loud 8 (.quiet 9 (.quiet 10 (.loud 11 .done)))))))))))) Tryz.mixed (by kernel_rfl) (by kernel_rfl) (by repeat (first | exact retQ_noP | refine seqQ_noP ?_ | refine blockQ_noP ?_ | refine loopQ_noP ?_ | refine scopeQ_noP ?_ | (intro _ _ _ h; cases h.1))) ?_
    refine S_q (Ent.re [9,6] rfl) rfl (Q_move rfl) rfl rfl rfl ?_
    refine S_q (Ent.re [9,6] rfl) rfl (Q_move rfl) rfl rfl rfl ?_
    refine S_q (Ent.re [9,6] rfl) rfl (Q_nilCheck rfl) rfl rfl rfl ?_
    refine S_q (Ent.re [9,6] rfl) rfl (Q_fa0 rfl) rfl rfl rfl ?_
    refine S_q (Ent.re [9,6] rfl) rfl (Q_ld 0 rfl rfl rfl rfl) rfl rfl rfl ?_
    refine S_q (Ent.re [9,6] rfl) rfl (Q_move rfl) rfl rfl rfl ?_
    refine S_q (Ent.re [9,6] rfl) rfl (Q_ldA 1 rfl rfl rfl) rfl rfl rfl ?_
    refine S_o rfl rfl rfl rfl (O_litN (τ := tKv) (m := 1) (sz := 2) [c.1[3]] rfl rfl rfl rfl rfl rfl (by decide) (by decide) (fun T => ⟨_, fun _ => ⟨Ent.reN [10,7] rfl, Ent.refl _⟩, ?_⟩))
    refine JS.norm ?_
    refine S_o rfl rfl rfl rfl (O_call [11,0] [1,2,3,4,5,6,7,8,9,10,12,13] (kvins_ok E S T (K1 ++ K2) c.1[3] A.length hAle (by simp; omega)) rfl rfl ?_)
    (rintro _ _ ⟨S2, rfl, rfl⟩; refine ⟨_, fun _ => ⟨Ent.reN [10,7] rfl, Ent.refl _⟩, ?_⟩)
    refine JS.norm ?_
    refine S_q (Ent.re [10,7] rfl) rfl (Q_nilCheck rfl) rfl rfl rfl ?_
    refine S_q (Ent.re [10,7] rfl) rfl (Q_fa0 rfl) rfl rfl rfl ?_
    refine S_s rfl rfl rfl (O_st1 10 rfl rfl rfl rfl rfl ⟨[], free_no (by kernel_rfl), ?_⟩)
    refine JS.norm ?_
    refine S_nil ?_
    refine seqQ_normal ?_
    rw [eK]
    refine J_region ?_
    refine L_q (Q_move rfl) rfl rfl rfl ?_
    refine L_q (Q_move rfl) rfl rfl rfl ?_
    refine L_q (Q_nilCheck rfl) rfl rfl rfl ?_
    refine L_q (Q_fa0 rfl) rfl rfl rfl ?_
    refine L_q (Q_ld 10 rfl rfl rfl rfl) rfl rfl rfl ?_
    refine L_q (Q_move rfl) rfl rfl rfl ?_
    refine L_q (Q_add rfl rfl (by first | exact IntWalk.i64_in _ (by omega) | exact IntWalk.u8_in _ (by omega) | exact IntWalk.u32_in _ (by omega) | exact IntWalk.u64_in _ (by omega) | rfl)) rfl rfl rfl ?_
    refine L_q (Q_move rfl) rfl rfl rfl ?_
    refine L_o rfl rfl rfl (O_litN (τ := tNd) (m := 1) (sz := 1) [some b27] rfl rfl rfl rfl rfl rfl (by decide) (by decide) (fun T => ?_))
    refine JL.norm ?_
    refine L_o rfl rfl rfl (O_call [12,0] [1,2,3,4,5,6,7,8,9,10,11,13] (ndins_ok E R T (pL (A ++ (q0, c) :: B)) (some b27) (A.length + 1) hPle hPb) rfl rfl ?_)
    rintro _ _ ⟨R2, rfl, rfl⟩
    refine JL.norm ?_
    refine L_q (Q_nilCheck rfl) rfl rfl rfl ?_
    refine L_q (Q_fa0 rfl) rfl rfl rfl ?_
    refine L_s rfl rfl (O_st1 11 rfl rfl rfl rfl rfl ?_)
    refine JL.norm ?_
    refine JL_nil ?_
    rw [eP b27 (spL (d + 1) c).1 (spL (d + 1) c).2, hce, hp4, hp5]
    refine retQ_normal [] _ .nil ⟨rfl, S2, R2, b27, rfl⟩ ?_
    refine (Ent.re [9, 6, 7, 4, 5, 2, 3, 10, 11, 1, 0, 12] rfl).trans ?_
    refine Ent.stars_split.trans ?_
    refine (Ent.re [2, 3, 4, 1, 8, 5, 6, 7, 0, 9, 10, 11, 12] rfl).trans ?_
    refine (Ent.innerA (es := ces.drop 4) (K := c.1.drop 4) (C := c.2.drop 4) (S := V) (Q := W) hC4).trans ?_
    refine (Ent.re [2, 3, 4, 5, 0, 1, 6, 7, 8, 9] rfl).trans ?_
    refine (Ent.innerA (es := ces.take 4) (K := c.1.take 3) (C := c.2.take 4) (S := V2) (Q := W2) hC5).trans ?_
    refine (Ent.re [1, 2, 0, 3, 4, 5, 6] rfl).trans ?_
    exact two_in A B q0 b27 (spL (d + 1) c).1 (spL (d + 1) c).2 _ _ _ F
end Go.Proofs.Bt
