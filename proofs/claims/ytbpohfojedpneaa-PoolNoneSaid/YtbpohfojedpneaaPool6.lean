/- A pool: new, its length, a client's last; a request put. -/
import Derived.Test.YtbpohfojedpneaaPool5
set_option autoImplicit false
namespace Go.Proofs
open Go.SL
def upd {α : Type} (W : Int → α) (k : Int) (v : α) : Int → α := fun j => if k = j then v else W j
def sumW (W : Int → List Rq) : Nat := ((List.range 16).map fun k => (W (k : Nat)).length).sum
structure PW (W : Int → List Rq) (X : Int → Int) (n : Nat) : Prop where
  own : ∀ k, ∀ r ∈ W k, r.client = k ∧ mayB r = true
  srt : ∀ k, SrtR (W k)
  len : ∀ k, (W k).length ≤ 4
  xr : ∀ k, 0 ≤ X k ∧ X k ≤ 2147483648
  n32 : n ≤ 32
  sum : n = sumW W
theorem may_parts {r : Rq} (h : mayB r = true) : 0 ≤ r.client ∧ r.client ≤ 15 ∧ 0 ≤ r.seq ∧ r.seq < 2147483648 := by
  simp only [mayB, Bool.and_eq_true, decide_eq_true_eq] at h
  exact ⟨h.1.1.1.1, h.1.1.1.2, h.1.1.2, h.1.2⟩
theorem PW.sq {W : Int → List Rq} {X : Int → Int} {n : Nat} (h : PW W X n) (k : Int) : ∀ r ∈ W k, 0 ≤ r.seq ∧ r.seq ≤ 2147483648 := fun r hr => by
  have := may_parts (h.own k r hr).2
  omega
theorem sum_upd (f g : Nat → Nat) (i : Nat) : ∀ n, i < n → (∀ j, j ≠ i → g j = f j) → ((List.range n).map g).sum + f i = ((List.range n).map f).sum + g i
  | 0, hi, _ => absurd hi (Nat.not_lt_zero _)
  | n + 1, hi, h => by
    rw [List.range_succ, List.map_append, List.map_append, List.sum_append, List.sum_append]
    simp only [List.map_cons, List.map_nil, List.sum_cons, List.sum_nil, Nat.add_zero]
    by_cases e : i = n
    · subst e
      have hc : ((List.range i).map g).sum = ((List.range i).map f).sum := by
        congr 1
        refine List.map_congr_left fun j hj => h j ?_
        have := List.mem_range.1 hj
        omega
      rw [hc]; omega
    · have := sum_upd f g i n (by omega) h
      have := h n (Ne.symm e)
      omega
theorem sumW_upd (W : Int → List Rq) (k : Int) (v : List Rq) (h0 : 0 ≤ k) (h1 : k ≤ 15) : sumW (upd W k v) + (W k).length = sumW W + v.length := by
  have e : ((k.toNat : Nat) : Int) = k := by omega
  have := sum_upd (fun j => (W (j : Nat)).length) (fun j => (upd W k v (j : Nat)).length) k.toNat 16 (by omega) (fun j hj => by
    simp only [upd]; rw [if_neg (by omega)])
  simp only [e] at this
  rw [show (upd W k v k) = v by simp [upd]] at this
  exact this
theorem sumW_le (W : Int → List Rq) (k : Int) (h0 : 0 ≤ k) (h1 : k ≤ 15) : (W k).length ≤ sumW W := by
  have := sumW_upd W k [] h0 h1
  simp at this
  omega
def insR (l : List Rq) (r : Rq) : List Rq := l.take (posR l r.seq) ++ r :: l.drop (posR l r.seq)
theorem insR_len (l : List Rq) (r : Rq) : (insR l r).length = l.length + 1 := by
  have := posR_le l r.seq
  simp [insR]; omega
theorem insR_mem (l : List Rq) (r x : Rq) : x ∈ insR l r ↔ x = r ∨ x ∈ l := by
  have : x ∈ l ↔ x ∈ l.take (posR l r.seq) ∨ x ∈ l.drop (posR l r.seq) := by
    rw [← List.mem_append, List.take_append_drop]
  rw [insR, List.mem_append, List.mem_cons, this]
  constructor
  · rintro (h | h | h); exact .inr (.inl h); exact .inl h; exact .inr (.inr h)
  · rintro (h | h | h); exact .inr (.inl h); exact .inl h; exact .inr (.inr h)
theorem fndR_f {l : List Rq} {n : Int} (h : fndR l n = false) : ∀ r ∈ l, r.seq ≠ n := fun r hr e => by
  unfold fndR at h
  rw [List.any_eq_false] at h
  exact h r hr (decide_eq_true e)
theorem insR_srt {l : List Rq} {r : Rq} (hs : SrtR l) (hf : fndR l r.seq = false) : SrtR (insR l r) := by
  unfold insR
  have hne := fndR_f hf
  have h1 : SrtR (l.take (posR l r.seq) ++ l.drop (posR l r.seq)) := by rw [List.take_append_drop]; exact hs
  have h2 := List.pairwise_append.1 h1
  refine List.pairwise_append.2 ⟨h2.1, List.pairwise_cons.2 ⟨fun y hy => ?_, h2.2.1⟩, fun x hx y hy => ?_⟩
  · obtain ⟨j, hj, rfl⟩ := List.getElem_of_mem hy
    rw [List.getElem_drop]
    have hj2 : posR l r.seq + j < l.length := by simp at hj; omega
    have := posR_ge (n := r.seq) hs hj2 (by omega)
    have := hne l[posR l r.seq + j] (List.getElem_mem hj2)
    omega
  · have hxr : x.seq < r.seq := by
      obtain ⟨j, hj, rfl⟩ := List.getElem_of_mem hx
      rw [List.getElem_take]
      have hj' : j < posR l r.seq := by simp at hj; omega
      exact posR_lt (by have := posR_le l r.seq; omega) hj'
    rcases List.mem_cons.1 hy with rfl | hy
    · exact hxr
    · exact h2.2.2 x hx y hy
def putE (W : Int → List Rq) (X : Int → Int) (n : Nat) (r : Rq) : Int :=
  if mayB r = true then (if 4 ≤ (W r.client).length ∨ 32 ≤ n then 7 else if fndR (W r.client) r.seq = true ∨ r.seq < X r.client then 8 else 0) else 1
def putW (W : Int → List Rq) (X : Int → Int) (n : Nat) (r : Rq) : Int → List Rq := if putE W X n r = 0 then upd W r.client (insR (W r.client) r) else W
def putN (W : Int → List Rq) (X : Int → Int) (n : Nat) (r : Rq) : Nat := if putE W X n r = 0 then n + 1 else n
theorem putE_0 {W : Int → List Rq} {X : Int → Int} {n : Nat} {r : Rq} (h : putE W X n r = 0) : mayB r = true ∧ (W r.client).length < 4 ∧ n < 32 ∧ fndR (W r.client) r.seq = false ∧ X r.client ≤ r.seq := by
  unfold putE at h
  split at h
  · rename_i h1
    split at h
    · cases h
    · rename_i h2
      split at h
      · cases h
      · rename_i h3
        simp only [not_or, Bool.not_eq_true] at h2 h3
        exact ⟨h1, by omega, by omega, h3.1, by omega⟩
  · cases h
theorem PW.put {W : Int → List Rq} {X : Int → Int} {n : Nat} (h : PW W X n) (r : Rq) : PW (putW W X n r) X (putN W X n r) := by
  unfold putW putN
  by_cases e : putE W X n r = 0
  · rw [if_pos e, if_pos e]
    obtain ⟨h1, h2, h3, h4, h5⟩ := putE_0 e
    have hp := may_parts h1
    refine ⟨fun k x hx => ?_, fun k => ?_, fun k => ?_, h.xr, by omega, ?_⟩
    · unfold upd at hx
      split at hx
      · rename_i hk
        rcases (insR_mem _ _ _).1 hx with rfl | hx
        · exact ⟨hk, h1⟩
        · rw [← hk]; exact h.own _ x hx
      · exact h.own k x hx
    · unfold upd; split
      · exact insR_srt (h.srt _) h4
      · exact h.srt k
    · unfold upd; split
      · rw [insR_len]; omega
      · exact h.len k
    · have := sumW_upd W r.client (insR (W r.client) r) hp.1 hp.2.1
      rw [insR_len] at this
      have := h.sum
      omega
  · rw [if_neg e, if_neg e]; exact h
theorem PM.out {es : List En} {m2 : List (Int × Int)} {W : Int → List Rq} {X : Int → Int} {L : List HProp} (hm : PM es m2 W X) (k : Int) : Ent (starsE es :: L) (slc tRq true (svOf es k) (W k) :: starsE (restE es k) :: L) := by
  rw [← hm.w]; exact Ent.cl_out hm.nd1 k
theorem PM.back {es : List En} {m2 : List (Int × Int)} {W : Int → List Rq} {X : Int → Int} {L : List HProp} (hm : PM es m2 W X) (k : Int) : Ent (slc tRq true (svOf es k) (W k) :: starsE (restE es k) :: L) (starsE es :: L) := by
  rw [← hm.w]; exact Ent.cl_back hm.nd1 k
theorem PM.setW {es : List En} {m2 : List (Int × Int)} {W : Int → List Rq} {X : Int → Int} (hm : PM es m2 W X) (k : Int) (S : SV) (l : List Rq) : PM (mset es k (S, l)) m2 (upd W k l) X :=
  ⟨mset_nodup _ _ _ hm.nd1, hm.nd2, fun j => by rw [lsOf_mset, upd, hm.w], hm.x⟩
theorem PM.setX {es : List En} {m2 : List (Int × Int)} {W : Int → List Rq} {X : Int → Int} (hm : PM es m2 W X) (k v : Int) : PM es (mset m2 k v) W (upd X k v) :=
  ⟨hm.nd1, mset_nodup _ _ _ hm.nd2, hm.w, fun j => by rw [xOf_mset, upd, hm.x]⟩
def W0 : Int → List Rq := fun _ => []
def X0 : Int → Int := fun _ => 0
theorem PW.new : PW W0 X0 0 := ⟨by simp [W0], fun _ => List.Pairwise.nil, by simp [W0], by simp [X0], by omega, rfl⟩
attribute [local irreducible] J JL QOp JOp seqQ blockQ loopQ retQ slc cel hex star pur stars Does RV Ent pAt scopeQ
attribute [local irreducible] mpC starsE poolA
theorem pnew_ok (E : World) : Does Try.prog E 9 [] [] fun v L => ∃ p : Nat, v = .pointer (some ⟨p, 0, none⟩) ∧ L = [poolA p W0 X0 0] := by
  refine Does.of Try.func9 rfl Try.ntmps9 rfl rfl fun F => ?_
  refine J.norm ?_
  refine J_seq ?_
  refine J_region ?_
  refine L_q (Q_assign rfl) rfl rfl rfl ?_
  refine JL_nil ?_
  refine seqQ_normal ?_
  refine J_seq ?_
  refine J_region ?_
  refine L_o rfl rfl rfl (O_mnew mWt (fun r1 => ?_))
  refine JL.norm ?_
  refine L_o rfl rfl rfl (O_mnew mNx (fun r2 => ?_))
  refine JL.norm ?_
  refine L_q (Q_build rfl) rfl rfl rfl ?_
  refine L_o rfl rfl rfl (O_box rfl fun b4 => ?_)
  refine L_q (Q_assign rfl) rfl rfl rfl ?_
  refine JL_nil ?_
  refine seqQ_normal ?_
  refine J_ret ?_
  refine retQ_ret _ [poolA b4 W0 X0 0] (.cons (RV_tmp rfl) .nil) ⟨b4, rfl, rfl⟩ ?_
  have h0 : ∀ L, Ent L (starsE [] :: L) := fun L => by unfold starsE; exact Ent.stars_nil
  exact (h0 _).trans ((Ent.re [1, 3, 2, 0, 4] rfl).trans (Ent.poolA_in (r1 := r1) (r2 := r2) (es := []) (m2 := []) ⟨by simp, by simp, fun _ => rfl, fun _ => rfl⟩))
theorem plen_ok (E : World) (p n : Nat) (W : Int → List Rq) (X : Int → Int) : Does Try.prog E 18 [.pointer (some ⟨p, 0, none⟩)] [poolA p W X n] fun v L => v = .int .i64 (n : Int) ∧ L = [poolA p W X n] := by
  refine Does.of Try.func18 rfl Try.ntmps18 rfl rfl fun F => ?_
  refine J.norm ?_
  refine J.poolA fun r1 r2 es m2 hm => ?_
  refine J_seq ?_
  refine J_region ?_
  refine L_q (Q_assign rfl) rfl rfl rfl ?_
  refine JL_nil ?_
  refine seqQ_normal ?_
  refine J_seq ?_
  refine J_seq ?_
  refine J_region ?_
  refine L_q (Q_move rfl) rfl rfl rfl ?_
  refine L_q ((Q_peql rfl rfl).as (v' := .bool false) rfl) rfl rfl rfl ?_
  refine JL_nil ?_
  refine seqQ_normal ?_
  refine J_condF rfl ?_
  refine J_skip ?_
  refine seqQ_normal ?_
  refine J_seq ?_
  refine J_region ?_
  refine L_q (Q_move rfl) rfl rfl rfl ?_
  refine L_q (Q_nilCheck rfl) rfl rfl rfl ?_
  refine L_q (Q_fa0 rfl) rfl rfl rfl ?_
  refine L_q (Q_ld 0 rfl rfl rfl rfl) rfl rfl rfl ?_
  refine L_q (Q_assign rfl) rfl rfl rfl ?_
  refine JL_nil ?_
  refine seqQ_normal ?_
  refine J_ret ?_
  exact retQ_ret _ [poolA p W X n] (.cons (RV_tmp rfl) .nil) ⟨rfl, rfl⟩ (Ent.poolA_in hm)
theorem plast_ok (E : World) (p n : Nat) (W : Int → List Rq) (X : Int → Int) (c : Int) (h : PW W X n) : Does Try.prog E 19 [.pointer (some ⟨p, 0, none⟩), .int .i64 c] [poolA p W X n] fun v L => v = .int .i64 (X c - 1) ∧ L = [poolA p W X n] := by
  have hx := h.xr c
  refine Does.of Try.func19 rfl Try.ntmps19 rfl rfl fun F => ?_
  refine J.norm ?_
  refine J.poolA fun r1 r2 es m2 hm => ?_
  refine J_seq ?_
  refine J_region ?_
  refine L_q (Q_assign rfl) rfl rfl rfl ?_
  refine JL_nil ?_
  refine seqQ_normal ?_
  refine J_seq ?_
  refine J_seq ?_
  refine J_region ?_
  refine L_q (Q_move rfl) rfl rfl rfl ?_
  refine L_q ((Q_peql rfl rfl).as (v' := .bool false) rfl) rfl rfl rfl ?_
  refine JL_nil ?_
  refine seqQ_normal ?_
  refine J_condF rfl ?_
  refine J_skip ?_
  refine seqQ_normal ?_
  refine J_seq ?_
  refine J_region ?_
  refine L_q (Q_move rfl) rfl rfl rfl ?_
  refine L_q (Q_nilCheck rfl) rfl rfl rfl ?_
  refine L_q (Q_fa0 rfl) rfl rfl rfl ?_
  refine L_q (Q_ld 0 rfl rfl rfl rfl) rfl rfl rfl ?_
  refine L_q (Q_move rfl) rfl rfl rfl ?_
  refine L_q ((Q_mget (M := mNx) 2 c rfl rfl rfl).as (v' := .int .i64 (X c)) (by rw [nx_val, hm.x])) rfl rfl rfl ?_
  refine L_q (Q_sub rfl rfl (by first | exact IntWalk.i64_in _ (by omega) | exact IntWalk.u8_in _ (by omega) | exact IntWalk.u32_in _ (by omega) | exact IntWalk.u64_in _ (by omega) | rfl)) rfl rfl rfl ?_
  refine L_q (Q_assign rfl) rfl rfl rfl ?_
  refine JL_nil ?_
  refine seqQ_normal ?_
  refine J_ret ?_
  exact retQ_ret _ [poolA p W X n] (.cons (RV_tmp rfl) .nil) ⟨rfl, rfl⟩ (Ent.poolA_in hm)
theorem put_ok (E : World) (p n : Nat) (W : Int → List Rq) (X : Int → Int) (r : Rq) (h : PW W X n) (hr : Sh r) : Does Try.prog E 17 [.pointer (some ⟨p, 0, none⟩), .agg (rqV r).toArray] [poolA p W X n] fun v L => v = .int .i64 (putE W X n r) ∧ L = [poolA p (putW W X n r) X (putN W X n r)] := by
  have hc := check_ok E r hr
  have hl4 := h.len r.client
  have hn32 := h.n32
  refine Does.of Try.func17 rfl Try.ntmps17 rfl rfl fun F => ?_
  refine J.norm ?_
  refine J.poolA fun r1 r2 es m2 hm => ?_
  refine J_seq ?_
  refine J_region ?_
  refine L_o rfl rfl rfl (O_box rfl fun b3 => ?_)
  refine L_q (Q_assign rfl) rfl rfl rfl ?_
  refine JL_nil ?_
  refine seqQ_normal ?_
  refine J_seq ?_
  refine J_seq ?_
  cases hb : mayB r with
  | false =>
    have e1 : putE W X n r = 1 := by simp [putE, hb]
    have e2 : putW W X n r = W := by unfold putW; rw [e1]; rfl
    have e3 : putN W X n r = n := by unfold putN; rw [e1]; rfl
    rw [e1, e2, e3]
    rw [show mayE r = 1 by simp [mayE, hb]] at hc
    refine J_region ?_
    refine L_q (Q_move rfl) rfl rfl rfl ?_
    refine L_q ((Q_peql rfl rfl).as (v' := .bool false) rfl) rfl rfl rfl ?_
    refine L_q (Q_move rfl) rfl rfl rfl ?_
    refine L_q (Q_ldA 0 rfl rfl rfl) rfl rfl rfl ?_
    refine L_o rfl rfl rfl (O_call [] [0,1,2,3,4,5] hc rfl rfl ?_)
    rintro _ _ ⟨rfl, rfl⟩
    refine JL.norm ?_
    refine L_q ((Q_neq rfl rfl).as (v' := .bool true) rfl) rfl rfl rfl ?_
    refine L_q (Q_pickF rfl rfl) rfl rfl rfl ?_
    refine JL_nil ?_
    refine seqQ_normal ?_
    refine J_condT rfl ?_
    refine J_seq ?_
    refine J_region ?_
    refine L_q (Q_assign rfl) rfl rfl rfl ?_
    refine JL_nil ?_
    refine seqQ_normal ?_
    refine J_ret ?_
    refine seqQ_ret ?_
    exact retQ_ret _ [poolA p W X n] (.cons (RV_tmp rfl) .nil) ⟨rfl, rfl⟩ ((Ent.re [1, 2, 3, 4, 5] rfl).trans (Ent.poolA_in hm))
  | true =>
  have hpt := may_parts hb
  rw [show mayE r = 0 by simp [mayE, hb]] at hc
  refine J_region ?_
  refine L_q (Q_move rfl) rfl rfl rfl ?_
  refine L_q ((Q_peql rfl rfl).as (v' := .bool false) rfl) rfl rfl rfl ?_
  refine L_q (Q_move rfl) rfl rfl rfl ?_
  refine L_q (Q_ldA 0 rfl rfl rfl) rfl rfl rfl ?_
  refine L_o rfl rfl rfl (O_call [] [0,1,2,3,4,5] hc rfl rfl ?_)
  rintro _ _ ⟨rfl, rfl⟩
  refine JL.norm ?_
  refine L_q ((Q_neq rfl rfl).as (v' := .bool false) rfl) rfl rfl rfl ?_
  refine L_q (Q_pickF rfl rfl) rfl rfl rfl ?_
  refine JL_nil ?_
  refine seqQ_normal ?_
  refine J_condF rfl ?_
  refine J_skip ?_
  refine seqQ_normal ?_
  refine J_seq ?_
  refine J_drawH [0,1,2] [0, 1, 2, 3, 4, 5, 6, 7] (.quiet 0 (.quiet 1 (.quiet 2 (.quiet 3 (.quiet 4 (.quiet 5 (.quiet 6 (.quiet 7 .done)))))))) Try.mixed (by kernel_rfl) (by kernel_rfl) (by repeat (first | exact retQ_noP | refine seqQ_noP ?_ | refine blockQ_noP ?_ | refine loopQ_noP ?_ | refine scopeQ_noP ?_)) ?_
  refine S_q (Ent.re [0,1,2] rfl) rfl (Q_move rfl) rfl rfl rfl ?_
  refine S_q (Ent.re [0,1,2] rfl) rfl (Q_nilCheck rfl) rfl rfl rfl ?_
  refine S_q (Ent.re [0,1,2] rfl) rfl (Q_fa0 rfl) rfl rfl rfl ?_
  refine S_q (Ent.re [0,1,2] rfl) rfl (Q_ld 1 rfl rfl rfl rfl) rfl rfl rfl ?_
  refine S_q (Ent.re [0,1,2] rfl) rfl (Q_fa0 rfl) rfl rfl rfl ?_
  refine S_q (Ent.re [0,1,2] rfl) rfl (Q_ld 0 rfl rfl rfl rfl) rfl rfl rfl ?_
  refine S_q (Ent.re [0,1,2] rfl) rfl ((Q_mget (M := mWt) 2 r.client rfl rfl rfl).as (v' := (svOf es r.client).v) (wt_val es r.client)) rfl rfl rfl ?_
  refine S_q (Ent.re [0,1,2] rfl) rfl (Q_assign rfl) rfl rfl rfl ?_
  refine S_nil ?_
  refine seqQ_normal ?_
  refine J_seq ?_
  refine J_seq ?_
  refine J.ent ((Ent.re [4, 0, 1, 2, 3, 5] rfl).trans (hm.out r.client)) ?_
  have back : Ent (slc tRq true (svOf es r.client) (W r.client) :: starsE (restE es r.client) :: cel b3 (rqV r) 35 :: poolC p r1 r2 n :: mpC mWt r1 (m1 es) :: mpC mNx r2 m2 :: F :: []) [poolA p W X n, F] := (hm.back r.client).trans ((Ent.re [2, 3, 4, 0, 5] rfl).trans (Ent.poolA_in hm))
  by_cases h4 : 4 ≤ (W r.client).length ∨ 32 ≤ n
  · have e1 : putE W X n r = 7 := by simp only [putE, hb, if_true, if_pos h4]
    have e2 : putW W X n r = W := by unfold putW; rw [e1]; rfl
    have e3 : putN W X n r = n := by unfold putN; rw [e1]; rfl
    rw [e1, e2, e3]
    by_cases h4a : 4 ≤ (W r.client).length
    · skip
      refine J_region ?_
      refine L_q (Q_move rfl) rfl rfl rfl ?_
      refine L_q (Q_lenAt 0 rfl rfl) rfl rfl rfl ?_
      refine L_q ((Q_geq rfl rfl).as (v' := .bool true) (congrArg Value.bool (decide_eq_true (by omega)))) rfl rfl rfl ?_
      refine L_q (Q_move rfl) rfl rfl rfl ?_
      refine L_n rfl rfl rfl ?_
      refine L_n rfl rfl rfl ?_
      refine L_n rfl rfl rfl ?_
      refine L_n rfl rfl rfl ?_
      refine L_n rfl rfl rfl ?_
      refine L_q (Q_pickT rfl rfl) rfl rfl rfl ?_
      refine JL_nil ?_
      refine seqQ_normal ?_
      refine J_condT rfl ?_
      refine J_seq ?_
      refine J_region ?_
      refine L_q (Q_assign rfl) rfl rfl rfl ?_
      refine JL_nil ?_
      refine seqQ_normal ?_
      refine J_ret ?_
      refine seqQ_ret ?_
      exact retQ_ret _ [poolA p W X n] (.cons (RV_tmp rfl) .nil) ⟨rfl, rfl⟩ back
    · skip
      refine J_region ?_
      refine L_q (Q_move rfl) rfl rfl rfl ?_
      refine L_q (Q_lenAt 0 rfl rfl) rfl rfl rfl ?_
      refine L_q ((Q_geq rfl rfl).as (v' := .bool false) (congrArg Value.bool (decide_eq_false (by omega)))) rfl rfl rfl ?_
      refine L_q (Q_move rfl) rfl rfl rfl ?_
      refine L_q (Q_move rfl) rfl rfl rfl ?_
      refine L_q (Q_nilCheck rfl) rfl rfl rfl ?_
      refine L_q (Q_fa0 rfl) rfl rfl rfl ?_
      refine L_q (Q_ld 3 rfl rfl rfl rfl) rfl rfl rfl ?_
      refine L_q ((Q_geq rfl rfl).as (v' := .bool true) (congrArg Value.bool (decide_eq_true (by omega)))) rfl rfl rfl ?_
      refine L_q (Q_pickF rfl rfl) rfl rfl rfl ?_
      refine JL_nil ?_
      refine seqQ_normal ?_
      refine J_condT rfl ?_
      refine J_seq ?_
      refine J_region ?_
      refine L_q (Q_assign rfl) rfl rfl rfl ?_
      refine JL_nil ?_
      refine seqQ_normal ?_
      refine J_ret ?_
      refine seqQ_ret ?_
      exact retQ_ret _ [poolA p W X n] (.cons (RV_tmp rfl) .nil) ⟨rfl, rfl⟩ back
  refine J_region ?_
  refine L_q (Q_move rfl) rfl rfl rfl ?_
  refine L_q (Q_lenAt 0 rfl rfl) rfl rfl rfl ?_
  refine L_q ((Q_geq rfl rfl).as (v' := .bool false) (congrArg Value.bool (decide_eq_false (by omega)))) rfl rfl rfl ?_
  refine L_q (Q_move rfl) rfl rfl rfl ?_
  refine L_q (Q_move rfl) rfl rfl rfl ?_
  refine L_q (Q_nilCheck rfl) rfl rfl rfl ?_
  refine L_q (Q_fa0 rfl) rfl rfl rfl ?_
  refine L_q (Q_ld 3 rfl rfl rfl rfl) rfl rfl rfl ?_
  refine L_q ((Q_geq rfl rfl).as (v' := .bool false) (congrArg Value.bool (decide_eq_false (by omega)))) rfl rfl rfl ?_
  refine L_q (Q_pickF rfl rfl) rfl rfl rfl ?_
  refine JL_nil ?_
  refine seqQ_normal ?_
  refine J_condF rfl ?_
  refine J_skip ?_
  refine seqQ_normal ?_
  refine J_seq ?_
  refine J_region ?_
  refine L_q (Q_move rfl) rfl rfl rfl ?_
  refine L_q (Q_fa0 rfl) rfl rfl rfl ?_
  refine L_q (Q_ld 2 rfl rfl rfl rfl) rfl rfl rfl ?_
  refine L_o rfl rfl rfl (O_call [0] [1,2,3,4,5,6] (find_ok E (svOf es r.client) (W r.client) r.seq (by omega) (h.srt _) (h.sq _) (by omega)) rfl rfl ?_)
  rintro _ _ ⟨rfl, rfl⟩
  refine JL.norm ?_
  refine L_q (Q_move rfl) rfl rfl rfl ?_
  refine L_q (Q_extract (v := .int .i64 (posR (W r.client) r.seq : Int)) rfl rfl) rfl rfl rfl ?_
  refine L_q (Q_extract (v := .bool (fndR (W r.client) r.seq)) rfl rfl) rfl rfl rfl ?_
  refine L_q (Q_assign rfl) rfl rfl rfl ?_
  refine L_q (Q_assign rfl) rfl rfl rfl ?_
  refine JL_nil ?_
  refine seqQ_normal ?_
  refine J_seq ?_
  refine J_seq ?_
  cases hf : fndR (W r.client) r.seq with
  | true =>
    have e1 : putE W X n r = 8 := by simp only [putE, hb, if_true, if_neg h4, hf, true_or]
    have e2 : putW W X n r = W := by unfold putW; rw [e1]; rfl
    have e3 : putN W X n r = n := by unfold putN; rw [e1]; rfl
    rw [e1, e2, e3]
    refine J_drawH [2,3,5] [0, 1, 2, 3, 4, 5, 6, 7, 8, 9, 10, 11, 12] (.quiet 0 (.quiet 1 (.quiet 2 (.quiet 3 (.quiet 4 (.quiet 5 (.quiet 6 (.quiet 7 (.quiet 8 (.quiet 9 (.quiet 10 (.quiet 11 (.quiet 12 .done))))))))))))) Try.mixed (by kernel_rfl) (by kernel_rfl) (by repeat (first | exact retQ_noP | refine seqQ_noP ?_ | refine blockQ_noP ?_ | refine loopQ_noP ?_ | refine scopeQ_noP ?_)) ?_
    refine S_q (Ent.re [2,3,5] rfl) rfl (Q_move rfl) rfl rfl rfl ?_
    refine S_q (Ent.re [2,3,5] rfl) rfl (Q_move rfl) rfl rfl rfl ?_
    refine S_n (Ent.re [2,3,5] rfl) rfl rfl rfl rfl ?_
    refine S_n (Ent.re [2,3,5] rfl) rfl rfl rfl rfl ?_
    refine S_n (Ent.re [2,3,5] rfl) rfl rfl rfl rfl ?_
    refine S_n (Ent.re [2,3,5] rfl) rfl rfl rfl rfl ?_
    refine S_n (Ent.re [2,3,5] rfl) rfl rfl rfl rfl ?_
    refine S_n (Ent.re [2,3,5] rfl) rfl rfl rfl rfl ?_
    refine S_n (Ent.re [2,3,5] rfl) rfl rfl rfl rfl ?_
    refine S_n (Ent.re [2,3,5] rfl) rfl rfl rfl rfl ?_
    refine S_n (Ent.re [2,3,5] rfl) rfl rfl rfl rfl ?_
    refine S_n (Ent.re [2,3,5] rfl) rfl rfl rfl rfl ?_
    refine S_q (Ent.re [2,3,5] rfl) rfl (Q_pickT rfl rfl) rfl rfl rfl ?_
    refine S_nil ?_
    refine seqQ_normal ?_
    refine J_condT rfl ?_
    refine J_seq ?_
    refine J_region ?_
    refine L_q (Q_assign rfl) rfl rfl rfl ?_
    refine JL_nil ?_
    refine seqQ_normal ?_
    refine J_ret ?_
    refine seqQ_ret ?_
    exact retQ_ret _ [poolA p W X n] (.cons (RV_tmp rfl) .nil) ⟨rfl, rfl⟩ back
  | false =>
  by_cases hx : r.seq < X r.client
  · have e1 : putE W X n r = 8 := by simp only [putE, hb, if_true, if_neg h4, hx, or_true]
    have e2 : putW W X n r = W := by unfold putW; rw [e1]; rfl
    have e3 : putN W X n r = n := by unfold putN; rw [e1]; rfl
    rw [e1, e2, e3]
    refine J_drawH [2,3,5] [0, 1, 2, 3, 4, 5, 6, 7, 8, 9, 10, 11, 12] (.quiet 0 (.quiet 1 (.quiet 2 (.quiet 3 (.quiet 4 (.quiet 5 (.quiet 6 (.quiet 7 (.quiet 8 (.quiet 9 (.quiet 10 (.quiet 11 (.quiet 12 .done))))))))))))) Try.mixed (by kernel_rfl) (by kernel_rfl) (by repeat (first | exact retQ_noP | refine seqQ_noP ?_ | refine blockQ_noP ?_ | refine loopQ_noP ?_ | refine scopeQ_noP ?_)) ?_
    refine S_q (Ent.re [2,3,5] rfl) rfl (Q_move rfl) rfl rfl rfl ?_
    refine S_q (Ent.re [2,3,5] rfl) rfl (Q_move rfl) rfl rfl rfl ?_
    refine S_q (Ent.re [2,3,5] rfl) rfl (Q_fa0 rfl) rfl rfl rfl ?_
    refine S_q (Ent.re [2,3,5] rfl) rfl (Q_ld 0 rfl rfl rfl rfl) rfl rfl rfl ?_
    refine S_q (Ent.re [2,3,5] rfl) rfl (Q_move rfl) rfl rfl rfl ?_
    refine S_q (Ent.re [2,3,5] rfl) rfl (Q_nilCheck rfl) rfl rfl rfl ?_
    refine S_q (Ent.re [2,3,5] rfl) rfl (Q_fa0 rfl) rfl rfl rfl ?_
    refine S_q (Ent.re [2,3,5] rfl) rfl (Q_ld 1 rfl rfl rfl rfl) rfl rfl rfl ?_
    refine S_q (Ent.re [2,3,5] rfl) rfl (Q_fa0 rfl) rfl rfl rfl ?_
    refine S_q (Ent.re [2,3,5] rfl) rfl (Q_ld 0 rfl rfl rfl rfl) rfl rfl rfl ?_
    refine S_q (Ent.re [2,3,5] rfl) rfl ((Q_mget (M := mNx) 2 r.client rfl rfl rfl).as (v' := .int .i64 (X r.client)) (by rw [nx_val, hm.x])) rfl rfl rfl ?_
    refine S_q (Ent.re [2,3,5] rfl) rfl ((Q_lss rfl rfl).as (v' := .bool true) (congrArg Value.bool (decide_eq_true hx))) rfl rfl rfl ?_
    refine S_q (Ent.re [2,3,5] rfl) rfl (Q_pickF rfl rfl) rfl rfl rfl ?_
    refine S_nil ?_
    refine seqQ_normal ?_
    refine J_condT rfl ?_
    refine J_seq ?_
    refine J_region ?_
    refine L_q (Q_assign rfl) rfl rfl rfl ?_
    refine JL_nil ?_
    refine seqQ_normal ?_
    refine J_ret ?_
    refine seqQ_ret ?_
    exact retQ_ret _ [poolA p W X n] (.cons (RV_tmp rfl) .nil) ⟨rfl, rfl⟩ back
  · have e1 : putE W X n r = 0 := by simp only [putE, hb, if_true, if_neg h4, hf, hx, or_self, Bool.false_eq_true, if_false]
    have e2 : putW W X n r = upd W r.client (insR (W r.client) r) := by unfold putW; rw [e1]; rfl
    have e3 : putN W X n r = n + 1 := by unfold putN; rw [e1]; rfl
    rw [e1, e2, e3]
    refine J_drawH [2,3,5] [0, 1, 2, 3, 4, 5, 6, 7, 8, 9, 10, 11, 12] (.quiet 0 (.quiet 1 (.quiet 2 (.quiet 3 (.quiet 4 (.quiet 5 (.quiet 6 (.quiet 7 (.quiet 8 (.quiet 9 (.quiet 10 (.quiet 11 (.quiet 12 .done))))))))))))) Try.mixed (by kernel_rfl) (by kernel_rfl) (by repeat (first | exact retQ_noP | refine seqQ_noP ?_ | refine blockQ_noP ?_ | refine loopQ_noP ?_ | refine scopeQ_noP ?_)) ?_
    refine S_q (Ent.re [2,3,5] rfl) rfl (Q_move rfl) rfl rfl rfl ?_
    refine S_q (Ent.re [2,3,5] rfl) rfl (Q_move rfl) rfl rfl rfl ?_
    refine S_q (Ent.re [2,3,5] rfl) rfl (Q_fa0 rfl) rfl rfl rfl ?_
    refine S_q (Ent.re [2,3,5] rfl) rfl (Q_ld 0 rfl rfl rfl rfl) rfl rfl rfl ?_
    refine S_q (Ent.re [2,3,5] rfl) rfl (Q_move rfl) rfl rfl rfl ?_
    refine S_q (Ent.re [2,3,5] rfl) rfl (Q_nilCheck rfl) rfl rfl rfl ?_
    refine S_q (Ent.re [2,3,5] rfl) rfl (Q_fa0 rfl) rfl rfl rfl ?_
    refine S_q (Ent.re [2,3,5] rfl) rfl (Q_ld 1 rfl rfl rfl rfl) rfl rfl rfl ?_
    refine S_q (Ent.re [2,3,5] rfl) rfl (Q_fa0 rfl) rfl rfl rfl ?_
    refine S_q (Ent.re [2,3,5] rfl) rfl (Q_ld 0 rfl rfl rfl rfl) rfl rfl rfl ?_
    refine S_q (Ent.re [2,3,5] rfl) rfl ((Q_mget (M := mNx) 2 r.client rfl rfl rfl).as (v' := .int .i64 (X r.client)) (by rw [nx_val, hm.x])) rfl rfl rfl ?_
    refine S_q (Ent.re [2,3,5] rfl) rfl ((Q_lss rfl rfl).as (v' := .bool false) (congrArg Value.bool (decide_eq_false hx))) rfl rfl rfl ?_
    refine S_q (Ent.re [2,3,5] rfl) rfl (Q_pickF rfl rfl) rfl rfl rfl ?_
    refine S_nil ?_
    refine seqQ_normal ?_
    refine J_condF rfl ?_
    refine J_skip ?_
    refine seqQ_normal ?_
    refine J_seq ?_
    refine J_drawH [2,3] [0, 1, 2, 3, 4, 5, 6, 7, 8] (.quiet 0 (.quiet 1 (.quiet 2 (.quiet 3 (.quiet 4 (.quiet 5 (.quiet 6 (.quiet 7 (.quiet 8 (.loud 9 (.loud 10 (.loud 11 .done)))))))))))) Try.mixed (by kernel_rfl) (by kernel_rfl) (by repeat (first | exact retQ_noP | refine seqQ_noP ?_ | refine blockQ_noP ?_ | refine loopQ_noP ?_ | refine scopeQ_noP ?_)) ?_
    refine S_q (Ent.re [2,3] rfl) rfl (Q_move rfl) rfl rfl rfl ?_
    refine S_q (Ent.re [2,3] rfl) rfl (Q_nilCheck rfl) rfl rfl rfl ?_
    refine S_q (Ent.re [2,3] rfl) rfl (Q_fa0 rfl) rfl rfl rfl ?_
    refine S_q (Ent.re [2,3] rfl) rfl (Q_ld 1 rfl rfl rfl rfl) rfl rfl rfl ?_
    refine S_q (Ent.re [2,3] rfl) rfl (Q_fa0 rfl) rfl rfl rfl ?_
    refine S_q (Ent.re [2,3] rfl) rfl (Q_ld 0 rfl rfl rfl rfl) rfl rfl rfl ?_
    refine S_q (Ent.re [2,3] rfl) rfl (Q_move rfl) rfl rfl rfl ?_
    refine S_q (Ent.re [2,3] rfl) rfl (Q_move rfl) rfl rfl rfl ?_
    refine S_q (Ent.re [2,3] rfl) rfl (Q_ldA 0 rfl rfl rfl) rfl rfl rfl ?_
    refine S_o rfl rfl rfl rfl (O_litN (τ := tRq) (m := 1) (sz := 6) [r] rfl rfl rfl rfl rfl rfl (by decide) (by decide) (fun T => ⟨_, fun _ => ⟨Ent.reN [3,4] rfl, Ent.refl _⟩, ?_⟩))
    refine JS.norm ?_
    refine S_o rfl rfl rfl rfl (O_call [1,0] [2,3,4,5,6,7] (rqins_ok E (svOf es r.client) T (W r.client) r (posR (W r.client) r.seq) (posR_le _ _) (by omega)) rfl rfl ?_)
    (rintro _ _ ⟨S', rfl, rfl⟩; refine ⟨_, fun _ => ⟨Ent.reN [2,3] rfl, Ent.refl _⟩, ?_⟩)
    refine JS.norm ?_
    refine S_s rfl rfl rfl (O_mset (M := mWt) 4 r.client S' rfl rfl rfl rfl ⟨_, fun _ => ⟨Ent.reN [2,3] rfl, Ent.refl _⟩, ?_⟩)
    refine JS.norm ?_
    refine S_nil ?_
    refine seqQ_normal ?_
    refine J_seq ?_
    refine J_region ?_
    refine L_q (Q_move rfl) rfl rfl rfl ?_
    refine L_q (Q_nilCheck rfl) rfl rfl rfl ?_
    refine L_q (Q_fa0 rfl) rfl rfl rfl ?_
    refine L_q (Q_ld 3 rfl rfl rfl rfl) rfl rfl rfl ?_
    refine L_q (Q_add rfl rfl (by first | exact IntWalk.i64_in _ (by omega) | exact IntWalk.u8_in _ (by omega) | exact IntWalk.u32_in _ (by omega) | exact IntWalk.u64_in _ (by omega) | rfl)) rfl rfl rfl ?_
    refine L_q (Q_nilCheck rfl) rfl rfl rfl ?_
    refine L_q (Q_fa0 rfl) rfl rfl rfl ?_
    refine L_s rfl rfl (O_st1 3 rfl rfl rfl rfl rfl ?_)
    refine JL.norm ?_
    refine JL_nil ?_
    refine seqQ_normal ?_
    refine J_seq ?_
    refine J_region ?_
    refine L_q (Q_assign rfl) rfl rfl rfl ?_
    refine JL_nil ?_
    refine seqQ_normal ?_
    refine J_ret ?_
    refine retQ_ret _ [poolA p (upd W r.client (insR (W r.client) r)) X (n + 1)] (.cons (RV_tmp rfl) .nil) ⟨rfl, rfl⟩ ?_
    have hin := Ent.cl_in (es := es) (L := cel b3 (rqV r) 35 :: poolC p r1 r2 (n + 1) :: mpC mWt r1 (mset (m1 es) r.client S') :: mpC mNx r2 m2 :: F :: []) hm.nd1 r.client S' (insR (W r.client) r)
    rw [← mset_m1 es r.client S' (insR (W r.client) r)] at hin
    rw [← mset_m1 es r.client S' (insR (W r.client) r)]
    exact hin.trans ((Ent.re [2, 3, 4, 0, 5] rfl).trans (Ent.poolA_in (hm.setW r.client S' _)))
end Go.Proofs
