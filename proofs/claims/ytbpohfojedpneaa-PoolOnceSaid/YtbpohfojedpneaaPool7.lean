/- A pool: requests done. -/
import Derived.Test.YtbpohfojedpneaaPool6
set_option autoImplicit false
namespace Go.Proofs
open Go.SL
abbrev PSt := (Int → List Rq) × (Int → Int) × Nat
def nxt (X : Int → Int) (r : Rq) : Int := max (X r.client) (r.seq + 1)
def done1 (s : PSt) (r : Rq) : PSt :=
  if mayB r = true then (upd s.1 r.client ((s.1 r.client).drop (posR (s.1 r.client) (nxt s.2.1 r))), upd s.2.1 r.client (nxt s.2.1 r), s.2.2 - posR (s.1 r.client) (nxt s.2.1 r)) else s
def doneF (s : PSt) (l : List Rq) : PSt := l.foldl done1 s
abbrev PWs (s : PSt) : Prop := PW s.1 s.2.1 s.2.2
theorem doneF_succ (s : PSt) (l : List Rq) (k : Nat) (h : k < l.length) : doneF s (l.take (k + 1)) = done1 (doneF s (l.take k)) l[k] := by
  unfold doneF; rw [List.take_succ_eq_append_getElem h, List.foldl_append]; rfl
theorem done1_no {s : PSt} {r : Rq} (h : mayB r = false) : done1 s r = s := by unfold done1; rw [h]; rfl
theorem done1_yes {s : PSt} {r : Rq} (h : mayB r = true) : done1 s r = (upd s.1 r.client ((s.1 r.client).drop (posR (s.1 r.client) (nxt s.2.1 r))), upd s.2.1 r.client (nxt s.2.1 r), s.2.2 - posR (s.1 r.client) (nxt s.2.1 r)) := by unfold done1; rw [if_pos h]
theorem nxt_rng {s : PSt} (h : PWs s) {r : Rq} (hr : mayB r = true) : 0 ≤ nxt s.2.1 r ∧ nxt s.2.1 r ≤ 2147483648 := by
  have h1 := may_parts hr
  have h2 := h.xr r.client
  unfold nxt; omega
theorem done1_pos {s : PSt} (h : PWs s) {r : Rq} (hr : mayB r = true) : posR (s.1 r.client) (nxt s.2.1 r) ≤ s.2.2 := by
  have h1 := may_parts hr
  have h2 := posR_le (s.1 r.client) (nxt s.2.1 r)
  have h3 := sumW_le s.1 r.client h1.1 h1.2.1
  have h4 := h.sum
  omega
theorem PW.done1 {s : PSt} (h : PWs s) (r : Rq) : PWs (Go.Proofs.done1 s r) := by
  cases hb : mayB r with
  | false => rw [done1_no hb]; exact h
  | true =>
    rw [done1_yes hb]
    have hp := may_parts hb
    have hn := nxt_rng h hb
    have hpl := posR_le (s.1 r.client) (nxt s.2.1 r)
    refine ⟨fun k x hx => ?_, fun k => ?_, fun k => ?_, fun k => ?_, by simp only; have := h.n32; omega, ?_⟩
    · simp only [upd] at hx
      split at hx
      · rename_i hk
        have := h.own _ x (List.mem_of_mem_drop hx)
        rw [hk] at this; exact this
      · exact h.own k x hx
    · simp only [upd]; split
      · exact (h.srt _).sublist (List.drop_sublist _ _)
      · exact h.srt k
    · simp only [upd]; split
      · have := h.len r.client; simp; omega
      · exact h.len k
    · simp only [upd]; split
      · exact hn
      · exact h.xr k
    · have h1 := sumW_upd s.1 r.client ((s.1 r.client).drop (posR (s.1 r.client) (nxt s.2.1 r))) hp.1 hp.2.1
      rw [List.length_drop] at h1
      have h2 := h.sum
      have h3 := sumW_le s.1 r.client hp.1 hp.2.1
      simp only
      omega
theorem PW.doneF {s : PSt} (h : PWs s) (l : List Rq) : PWs (Go.Proofs.doneF s l) := by
  induction l generalizing s with
  | nil => exact h
  | cons r l ih => exact ih (h.done1 r)
theorem done1_le {s : PSt} (r : Rq) : (done1 s r).2.2 ≤ s.2.2 := by
  unfold done1; split
  · simp only; omega
  · exact Nat.le_refl _
theorem doneF_le (s : PSt) (l : List Rq) : (doneF s l).2.2 ≤ s.2.2 := by
  induction l generalizing s with
  | nil => exact Nat.le_refl _
  | cons r l ih => exact Nat.le_trans (ih (done1 s r)) (done1_le r)
attribute [local irreducible] J JL QOp JOp seqQ blockQ loopQ retQ slc cel hex star pur stars Does RV Ent pAt scopeQ
attribute [local irreducible] mpC starsE poolA
theorem done_ok (E : World) (p n : Nat) (W : Int → List Rq) (X : Int → Int) (f : Bool) (S : SV) (l : List Rq) (h : PW W X n) (hr : ∀ r ∈ l, Sh r) (hl : l.length ≤ 1000) : Does Try.prog E 12 [.pointer (some ⟨p, 0, none⟩), S.v] [poolA p W X n, slc tRq f S l] fun v L => v = .int .i64 ((n : Int) - ((doneF (W, X, n) l).2.2 : Int)) ∧ L = [poolA p (doneF (W, X, n) l).1 (doneF (W, X, n) l).2.1 (doneF (W, X, n) l).2.2, slc tRq f S l] := by
  have hn32 := h.n32
  refine Does.of Try.func12 rfl Try.ntmps12 rfl rfl fun F => ?_
  refine J.norm ?_
  refine J_seq ?_
  refine J_region ?_
  refine L_q (Q_assign rfl) rfl rfl rfl ?_
  refine JL_nil ?_
  refine seqQ_normal ?_
  refine J_seq ?_
  refine J_seq ?_
  refine J_region ?_
  refine L_q (Q_move rfl) rfl rfl rfl ?_
  refine L_q ((Q_peql rfl rfl).as (v' := .bool false) rfl) rfl rfl rfl ?_
  refine JL_nil ?_
  refine seqQ_normal ?_
  refine J_condF rfl ?_
  refine J_skip ?_
  refine seqQ_normal ?_
  refine J_seq ?_
  refine J.poolA fun r1 r2 es m2 hm => ?_
  refine J_region ?_
  refine L_q (Q_move rfl) rfl rfl rfl ?_
  refine L_q (Q_nilCheck rfl) rfl rfl rfl ?_
  refine L_q (Q_fa0 rfl) rfl rfl rfl ?_
  refine L_q (Q_ld 0 rfl rfl rfl rfl) rfl rfl rfl ?_
  refine L_q (Q_assign rfl) rfl rfl rfl ?_
  refine JL_nil ?_
  refine seqQ_normal ?_
  refine J_seq ?_
  refine J_seq ?_
  refine J.ent (Ent.poolA_in hm) ?_
  clear hm es m2 r1 r2
  refine J_region ?_
  refine L_q (Q_move rfl) rfl rfl rfl ?_
  refine L_q (Q_lenAt 1 rfl rfl) rfl rfl rfl ?_
  refine L_q (Q_move rfl) rfl rfl rfl ?_
  refine JL_nil ?_
  refine seqQ_normal ?_
  refine J_block ?_
  refine J_loop (fun k : Nat => k ≤ l.length) (fun k => [(0, .pointer (some ⟨p, 0, none⟩)), (5, .int .i64 (n : Int)), (17, S.v), (18, .int .i64 (l.length : Int)), (19, .int .i64 (k : Int))])
    (fun k => [poolA p (doneF (W, X, n) (l.take k)).1 (doneF (W, X, n) (l.take k)).2.1 (doneF (W, X, n) (l.take k)).2.2, slc tRq f S l, F]) (fun k => l.length - k) 0 (Nat.zero_le _) ⟨rfl, rfl, rfl, rfl, rfl, trivial⟩ (Ent.refl _) ?_
  intro k hk
  have hPW := PW.doneF (s := (W, X, n)) h (l.take k)
  refine J_seq ?_
  refine J_region ?_
  refine L_q (Q_lss rfl rfl) rfl rfl rfl ?_
  refine JL_nil ?_
  refine seqQ_normal ?_
  refine J_seq ?_
  refine J_condD rfl (fun hc => ?_) (fun hc => ?_)
  · have hlt : k < l.length := by omega
    have hs := doneF_succ (W, X, n) l k hlt
    have hsh := hr l[k] (List.getElem_mem hlt)
    generalize doneF (W, X, n) (l.take k) = s at *
    obtain ⟨W1, X1, n1⟩ := s
    dsimp only at hPW ⊢
    generalize hrr : l[k] = r at *
    have hck := check_ok E r hsh
    refine J.poolA fun r1 r2 es m2 hm => ?_
    refine J_skip ?_
    refine seqQ_normal ?_
    refine J_seq ?_
    refine J_block ?_
    refine J_seq ?_
    refine J_region ?_
    refine L_q (Q_ixAt 4 k rfl rfl rfl rfl hlt rfl) rfl rfl rfl ?_
    refine L_q (Q_ldEAAt 4 k 0 (vs := rqV r) rfl rfl rfl rfl hlt (by decide) (by rw [hrr]; rfl)) rfl rfl rfl ?_
    refine L_o rfl rfl rfl (O_alloc fun b7 => ?_)
    refine L_s rfl rfl (O_stW 0 rfl rfl rfl rfl ?_)
    refine JL.norm ?_
    refine JL_nil ?_
    refine seqQ_normal ?_
    refine J_seq ?_
    refine J_seq ?_
    cases hb : mayB r with
    | false =>
      rw [show mayE r = 1 by simp [mayE, hb]] at hck
      rw [done1_no hb] at hs
      refine J_region ?_
      refine L_q (Q_ldA 0 rfl rfl rfl) rfl rfl rfl ?_
      refine L_o rfl rfl rfl (O_call [] [0,1,2,3,4,5,6] hck rfl rfl ?_)
      rintro _ _ ⟨rfl, rfl⟩
      refine JL.norm ?_
      refine L_q ((Q_neq rfl rfl).as (v' := .bool true) rfl) rfl rfl rfl ?_
      refine JL_nil ?_
      refine seqQ_normal ?_
      refine J_condT rfl ?_
      refine J_exit ?_
      refine seqQ_exit ?_
      refine blockQ_hit ?_
      refine seqQ_normal ?_
      refine J_region ?_
      refine L_q (Q_add rfl rfl (by first | exact IntWalk.i64_in _ (by omega) | exact IntWalk.u8_in _ (by omega) | exact IntWalk.u32_in _ (by omega) | exact IntWalk.u64_in _ (by omega) | rfl)) rfl rfl rfl ?_
      refine L_q (Q_move rfl) rfl rfl rfl ?_
      refine JL_nil ?_
      exact loopQ_normal (k + 1) hlt (by omega) ⟨rfl, rfl, rfl, rfl, rfl, trivial⟩ (by rw [hs]; exact (Ent.re [1, 2, 3, 4, 5, 6] rfl).trans (Ent.poolA_in hm))
    | true =>
      rw [show mayE r = 0 by simp [mayE, hb]] at hck
      have hdy := done1_yes (s := (W1, X1, n1)) hb
      have hnr := nxt_rng hPW hb
      have hpp := done1_pos hPW hb
      have hpt := may_parts hb
      have hlen := hPW.len r.client
      have hsrt := hPW.srt r.client
      have hsq := hPW.sq r.client
      have hxr := hPW.xr r.client
      have hn1 := hPW.n32
      simp only at hdy hnr hpp hlen hsrt hsq hxr hn1
      have hpl := posR_le (W1 r.client) (nxt X1 r)
      rw [hdy] at hs
      refine J_region ?_
      refine L_q (Q_ldA 0 rfl rfl rfl) rfl rfl rfl ?_
      refine L_o rfl rfl rfl (O_call [] [0,1,2,3,4,5,6] hck rfl rfl ?_)
      rintro _ _ ⟨rfl, rfl⟩
      refine JL.norm ?_
      refine L_q ((Q_neq rfl rfl).as (v' := .bool false) rfl) rfl rfl rfl ?_
      refine JL_nil ?_
      refine seqQ_normal ?_
      refine J_condF rfl ?_
      refine J_skip ?_
      refine seqQ_normal ?_
      refine J_seq ?_
      refine J_drawH [0,1,3] [0, 1, 2, 3, 4, 5, 6, 7, 8, 9, 10, 11, 12, 13, 14, 15, 16] (.quiet 0 (.quiet 1 (.quiet 2 (.quiet 3 (.quiet 4 (.quiet 5 (.quiet 6 (.quiet 7 (.quiet 8 (.quiet 9 (.quiet 10 (.quiet 11 (.quiet 12 (.quiet 13 (.quiet 14 (.quiet 15 (.quiet 16 (.loud 17 .done)))))))))))))))))) Try.mixed (by kernel_rfl) (by kernel_rfl) (by repeat (first | exact retQ_noP | refine seqQ_noP ?_ | refine blockQ_noP ?_ | refine loopQ_noP ?_ | refine scopeQ_noP ?_)) ?_
      refine S_q (Ent.re [0,1,3] rfl) rfl (Q_move rfl) rfl rfl rfl ?_
      refine S_q (Ent.re [0,1,3] rfl) rfl (Q_nilCheck rfl) rfl rfl rfl ?_
      refine S_q (Ent.re [0,1,3] rfl) rfl (Q_fa0 rfl) rfl rfl rfl ?_
      refine S_q (Ent.re [0,1,3] rfl) rfl (Q_ld 1 rfl rfl rfl rfl) rfl rfl rfl ?_
      refine S_q (Ent.re [0,1,3] rfl) rfl (Q_fa0 rfl) rfl rfl rfl ?_
      refine S_q (Ent.re [0,1,3] rfl) rfl (Q_ld 0 rfl rfl rfl rfl) rfl rfl rfl ?_
      refine S_q (Ent.re [0,1,3] rfl) rfl (Q_move rfl) rfl rfl rfl ?_
      refine S_q (Ent.re [0,1,3] rfl) rfl (Q_nilCheck rfl) rfl rfl rfl ?_
      refine S_q (Ent.re [0,1,3] rfl) rfl (Q_fa0 rfl) rfl rfl rfl ?_
      refine S_q (Ent.re [0,1,3] rfl) rfl (Q_ld 1 rfl rfl rfl rfl) rfl rfl rfl ?_
      refine S_q (Ent.re [0,1,3] rfl) rfl (Q_fa0 rfl) rfl rfl rfl ?_
      refine S_q (Ent.re [0,1,3] rfl) rfl (Q_ld 0 rfl rfl rfl rfl) rfl rfl rfl ?_
      refine S_q (Ent.re [0,1,3] rfl) rfl ((Q_mget (M := mNx) 2 r.client rfl rfl rfl).as (v' := .int .i64 (X1 r.client)) (by rw [nx_val, hm.x])) rfl rfl rfl ?_
      refine S_q (Ent.re [0,1,3] rfl) rfl (Q_fa0 rfl) rfl rfl rfl ?_
      refine S_q (Ent.re [0,1,3] rfl) rfl (Q_ld 0 rfl rfl rfl rfl) rfl rfl rfl ?_
      refine S_q (Ent.re [0,1,3] rfl) rfl (Q_add rfl rfl (by first | exact IntWalk.i64_in _ (by omega) | exact IntWalk.u8_in _ (by omega) | exact IntWalk.u32_in _ (by omega) | exact IntWalk.u64_in _ (by omega) | rfl)) rfl rfl rfl ?_
      refine S_q (Ent.re [0,1,3] rfl) rfl ((Q_max2 rfl rfl).as (v' := .int .i64 (nxt X1 r)) rfl) rfl rfl rfl ?_
      refine S_s rfl rfl rfl (O_mset (M := mNx) 3 r.client (nxt X1 r) rfl rfl rfl rfl ⟨[], free_no (by kernel_rfl), ?_⟩)
      refine JS.norm ?_
      refine S_nil ?_
      refine seqQ_normal ?_
      refine J_seq ?_
      have hm3 := hm.setX r.client (nxt X1 r)
      generalize mset m2 r.client (nxt X1 r) = m3 at *
      refine J_drawH [0,1,2] [0, 1, 2, 3, 4, 5, 6, 7] (.quiet 0 (.quiet 1 (.quiet 2 (.quiet 3 (.quiet 4 (.quiet 5 (.quiet 6 (.quiet 7 .done)))))))) Try.mixed (by kernel_rfl) (by kernel_rfl) (by repeat (first | exact retQ_noP | refine seqQ_noP ?_ | refine blockQ_noP ?_ | refine loopQ_noP ?_ | refine scopeQ_noP ?_)) ?_
      refine S_q (Ent.re [0,1,2] rfl) rfl (Q_move rfl) rfl rfl rfl ?_
      refine S_q (Ent.re [0,1,2] rfl) rfl (Q_nilCheck rfl) rfl rfl rfl ?_
      refine S_q (Ent.re [0,1,2] rfl) rfl (Q_fa0 rfl) rfl rfl rfl ?_
      refine S_q (Ent.re [0,1,2] rfl) rfl (Q_ld 1 rfl rfl rfl rfl) rfl rfl rfl ?_
      refine S_q (Ent.re [0,1,2] rfl) rfl (Q_fa0 rfl) rfl rfl rfl ?_
      refine S_q (Ent.re [0,1,2] rfl) rfl (Q_ld 0 rfl rfl rfl rfl) rfl rfl rfl ?_
      refine S_q (Ent.re [0,1,2] rfl) rfl ((Q_mget (M := mWt) 2 r.client rfl rfl rfl).as (v' := (svOf es r.client).v) (wt_val es r.client)) rfl rfl rfl ?_
      refine S_q (Ent.re [0,1,2] rfl) rfl (Q_assign rfl) rfl rfl rfl ?_
      refine S_nil ?_
      refine seqQ_normal ?_
      refine J_seq ?_
      refine J.ent ((Ent.re [4, 0, 1, 2, 3, 5, 6] rfl).trans (hm3.out r.client)) ?_
      refine J_drawH [2,3,5] [0, 1, 2, 3, 4, 5, 6, 7, 9, 10, 11, 12, 13] (.quiet 0 (.quiet 1 (.quiet 2 (.quiet 3 (.quiet 4 (.quiet 5 (.quiet 6 (.quiet 7 (.loud 8 (.quiet 9 (.quiet 10 (.quiet 11 (.quiet 12 (.quiet 13 .done)))))))))))))) Try.mixed (by kernel_rfl) (by kernel_rfl) (by repeat (first | exact retQ_noP | refine seqQ_noP ?_ | refine blockQ_noP ?_ | refine loopQ_noP ?_ | refine scopeQ_noP ?_)) ?_
      refine S_q (Ent.re [2,3,5] rfl) rfl (Q_move rfl) rfl rfl rfl ?_
      refine S_q (Ent.re [2,3,5] rfl) rfl (Q_move rfl) rfl rfl rfl ?_
      refine S_q (Ent.re [2,3,5] rfl) rfl (Q_nilCheck rfl) rfl rfl rfl ?_
      refine S_q (Ent.re [2,3,5] rfl) rfl (Q_fa0 rfl) rfl rfl rfl ?_
      refine S_q (Ent.re [2,3,5] rfl) rfl (Q_ld 1 rfl rfl rfl rfl) rfl rfl rfl ?_
      refine S_q (Ent.re [2,3,5] rfl) rfl (Q_fa0 rfl) rfl rfl rfl ?_
      refine S_q (Ent.re [2,3,5] rfl) rfl (Q_ld 0 rfl rfl rfl rfl) rfl rfl rfl ?_
      refine S_q (Ent.re [2,3,5] rfl) rfl ((Q_mget (M := mNx) 2 r.client rfl rfl rfl).as (v' := .int .i64 (nxt X1 r)) (by rw [nx_val, hm3.x, upd, if_pos rfl])) rfl rfl rfl ?_
      refine S_o rfl rfl rfl rfl (O_call [0] [1,2,3,4,5,6,7] (find_ok E (svOf es r.client) (W1 r.client) (nxt X1 r) (by omega) hsrt hsq hnr) rfl rfl ?_)
      (rintro _ _ ⟨rfl, rfl⟩; refine ⟨_, fun _ => ⟨Ent.reN [2,3,5] rfl, Ent.refl _⟩, ?_⟩)
      refine JS.norm ?_
      refine S_q (Ent.re [2,3,5] rfl) rfl (Q_move rfl) rfl rfl rfl ?_
      refine S_q (Ent.re [2,3,5] rfl) rfl (Q_extract (v := .int .i64 (posR (W1 r.client) (nxt X1 r) : Int)) rfl rfl) rfl rfl rfl ?_
      refine S_q (Ent.re [2,3,5] rfl) rfl (Q_extract (v := .bool (fndR (W1 r.client) (nxt X1 r))) rfl rfl) rfl rfl rfl ?_
      refine S_q (Ent.re [2,3,5] rfl) rfl (Q_assign rfl) rfl rfl rfl ?_
      refine S_q (Ent.re [2,3,5] rfl) rfl (Q_assign rfl) rfl rfl rfl ?_
      refine S_nil ?_
      refine seqQ_normal ?_
      refine J_seq ?_
      generalize posR (W1 r.client) (nxt X1 r) = a at *
      refine J_drawH [2,3] [0, 1, 2, 3, 4, 5, 6, 7] (.quiet 0 (.quiet 1 (.quiet 2 (.quiet 3 (.quiet 4 (.quiet 5 (.quiet 6 (.quiet 7 (.loud 8 (.loud 9 .done)))))))))) Try.mixed (by kernel_rfl) (by kernel_rfl) (by repeat (first | exact retQ_noP | refine seqQ_noP ?_ | refine blockQ_noP ?_ | refine loopQ_noP ?_ | refine scopeQ_noP ?_)) ?_
      refine S_q (Ent.re [2,3] rfl) rfl (Q_move rfl) rfl rfl rfl ?_
      refine S_q (Ent.re [2,3] rfl) rfl (Q_nilCheck rfl) rfl rfl rfl ?_
      refine S_q (Ent.re [2,3] rfl) rfl (Q_fa0 rfl) rfl rfl rfl ?_
      refine S_q (Ent.re [2,3] rfl) rfl (Q_ld 1 rfl rfl rfl rfl) rfl rfl rfl ?_
      refine S_q (Ent.re [2,3] rfl) rfl (Q_fa0 rfl) rfl rfl rfl ?_
      refine S_q (Ent.re [2,3] rfl) rfl (Q_ld 0 rfl rfl rfl rfl) rfl rfl rfl ?_
      refine S_q (Ent.re [2,3] rfl) rfl (Q_move rfl) rfl rfl rfl ?_
      refine S_q (Ent.re [2,3] rfl) rfl (Q_move rfl) rfl rfl rfl ?_
      refine S_o rfl rfl rfl rfl (O_call [0] [1,2,3,4,5,6,7] (rqdel_ok E (svOf es r.client) (W1 r.client) 0 a (Nat.zero_le _) hpl (by omega)) rfl rfl ?_)
      (rintro _ _ ⟨S', rfl, rfl⟩; refine ⟨_, fun _ => ⟨Ent.reN [2,3] rfl, Ent.refl _⟩, ?_⟩)
      refine JS.norm ?_
      refine S_s rfl rfl rfl (O_mset (M := mWt) 4 r.client S' rfl rfl rfl rfl ⟨_, fun _ => ⟨Ent.reN [2,3] rfl, Ent.refl _⟩, ?_⟩)
      refine JS.norm ?_
      refine S_nil ?_
      refine seqQ_normal ?_
      rw [List.take_zero, List.nil_append]
      refine J_region ?_
      refine L_q (Q_move rfl) rfl rfl rfl ?_
      refine L_q (Q_nilCheck rfl) rfl rfl rfl ?_
      refine L_q (Q_fa0 rfl) rfl rfl rfl ?_
      refine L_q (Q_ld 3 rfl rfl rfl rfl) rfl rfl rfl ?_
      refine L_q (Q_move rfl) rfl rfl rfl ?_
      refine L_q (Q_sub rfl rfl (by first | exact IntWalk.i64_in _ (by omega) | exact IntWalk.u8_in _ (by omega) | exact IntWalk.u32_in _ (by omega) | exact IntWalk.u64_in _ (by omega) | rfl)) rfl rfl rfl ?_
      refine L_q (Q_nilCheck rfl) rfl rfl rfl ?_
      refine L_q (Q_fa0 rfl) rfl rfl rfl ?_
      refine L_s rfl rfl (O_st1 3 rfl rfl rfl rfl rfl ?_)
      refine JL.norm ?_
      refine JL_nil ?_
      refine blockQ_normal ?_
      refine seqQ_normal ?_
      refine J_region ?_
      refine L_q (Q_add rfl rfl (by first | exact IntWalk.i64_in _ (by omega) | exact IntWalk.u8_in _ (by omega) | exact IntWalk.u32_in _ (by omega) | exact IntWalk.u64_in _ (by omega) | rfl)) rfl rfl rfl ?_
      refine L_q (Q_move rfl) rfl rfl rfl ?_
      refine JL_nil ?_
      refine loopQ_normal (k + 1) hlt (by omega) ⟨rfl, rfl, rfl, rfl, rfl, trivial⟩ ?_
      rw [hs]
      have hin := Ent.cl_in (es := es) (L := cel b7 (rqV r) 35 :: poolC p r1 r2 (n1 - a) :: mpC mWt r1 (mset (m1 es) r.client S') :: mpC mNx r2 m3 :: slc tRq f S l :: F :: []) hm.nd1 r.client S' ((W1 r.client).drop a)
      rw [← mset_m1 es r.client S' ((W1 r.client).drop a)] at hin
      have en : ((n1 - a : Nat) : Int) = (n1 : Int) - (a : Int) := by omega
      rw [← mset_m1 es r.client S' ((W1 r.client).drop a), ← en]
      exact hin.trans ((Ent.re [2, 3, 4, 0, 5, 6] rfl).trans (Ent.poolA_in (hm3.setW r.client S' _)))
  · obtain rfl : k = l.length := by omega
    rw [List.take_length] at hPW ⊢
    have hle := doneF_le (W, X, n) l
    generalize doneF (W, X, n) l = s at *
    obtain ⟨W1, X1, n1⟩ := s
    dsimp only at hle hPW ⊢
    refine J.poolA fun r1 r2 es m2 hm => ?_
    refine J_exit ?_
    refine seqQ_exit ?_
    refine loopQ_exit ?_
    refine blockQ_hit ?_
    refine seqQ_normal ?_
    refine J_seq ?_
    refine J_region ?_
    refine L_q (Q_move rfl) rfl rfl rfl ?_
    refine L_q (Q_move rfl) rfl rfl rfl ?_
    refine L_q (Q_nilCheck rfl) rfl rfl rfl ?_
    refine L_q (Q_fa0 rfl) rfl rfl rfl ?_
    refine L_q (Q_ld 0 rfl rfl rfl rfl) rfl rfl rfl ?_
    refine L_q (Q_sub rfl rfl (by first | exact IntWalk.i64_in _ (by omega) | exact IntWalk.u8_in _ (by omega) | exact IntWalk.u32_in _ (by omega) | exact IntWalk.u64_in _ (by omega) | rfl)) rfl rfl rfl ?_
    refine L_q (Q_assign rfl) rfl rfl rfl ?_
    refine JL_nil ?_
    refine seqQ_normal ?_
    refine J_ret ?_
    exact retQ_ret _ [poolA p W1 X1 n1, slc tRq f S l] (.cons (RV_tmp rfl) .nil) ⟨rfl, rfl⟩ (Ent.poolA_in hm)
end Go.Proofs
