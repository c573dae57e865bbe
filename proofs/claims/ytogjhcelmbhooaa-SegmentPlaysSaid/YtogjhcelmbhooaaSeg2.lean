/- A file's disk cut, its records read, its index made anew. -/
import Derived.Test.YtogjhcelmbhooaaSeg1
set_option autoImplicit false
namespace Go.Proofs
open Go.SL
attribute [local irreducible] J JL QOp JOp seqQ blockQ loopQ retQ slc cel hex star pur stars Does RV Ent pAt
theorem J_file {E : World} {n : Nat} {c : Code} {Q : Post} {ρ : Env} {L : List HProp} {f : Fl} {q : Nat} (h : ∀ (S : SV) (dp : Nat), J Try.prog E n c Q ρ (cel q [.int .i64 (f.first : Int), S.v, .pointer (some ⟨dp, 0, none⟩)] 78 :: slc tI true S (ends f.l) :: diskAt dp f.d :: L)) : J Try.prog E n c Q ρ (fileAt (f, q) :: L) := by
  unfold fileAt
  refine J.ex fun x => J.star ?_
  refine J.ent (L' := cel q [.int .i64 (f.first : Int), x.1.v, .pointer (some ⟨x.2, 0, none⟩)] 78 :: slc tI true x.1 (ends f.l) :: diskAt x.2 f.d :: L) (Ent.mk fun E w hs => ?_) (h x.1 x.2)
  have h1 := Sat.two (A := []) hs
  have h2 := Sat.star h1
  have h3 : Sat E w (slc tI true x.1 (ends f.l) :: cel q [.int .i64 (f.first : Int), x.1.v, .pointer (some ⟨x.2, 0, none⟩)] 78 :: diskAt x.2 f.d :: L) := Sat.two (A := [_]) h2
  exact Sat.two (A := []) h3
attribute [local irreducible] fileAt diskAt
def cutD (d : Dk) (k : Nat) : Dk := if k < d.b.length then ⟨d.b.take k, min d.s k⟩ else d
theorem cut_ok (E : World) (p k : Nat) (d : Dk) (hd : d.b.length ≤ 65536) (hs : d.s ≤ d.b.length) : Does Try.prog E 49 [.pointer (some ⟨p, 0, none⟩), .int .i64 (k : Int)] [diskAt p d] fun v L => v = .tuple #[] ∧ L = [diskAt p (cutD d k)] := by
  refine Does.of Try.func49 rfl Try.ntmps49 rfl rfl fun F => ?_
  refine J.norm ?_
  unfold diskAt
  refine J.ex fun S => J.star ?_
  refine J_seq ?_
  refine J_region ?_
  refine L_q (Q_move rfl) rfl rfl rfl ?_
  refine L_q ((Q_pneq rfl rfl).as (v' := .bool true) rfl) rfl rfl rfl ?_
  refine L_q (Q_move rfl) rfl rfl rfl ?_
  refine L_q (Q_move rfl) rfl rfl rfl ?_
  refine L_q ((Q_geq rfl rfl).as (v' := .bool true) (congrArg Value.bool (decide_eq_true (by omega)))) rfl rfl rfl ?_
  refine L_q (Q_pickT rfl rfl) rfl rfl rfl ?_
  refine L_q (Q_move rfl) rfl rfl rfl ?_
  refine L_q (Q_move rfl) rfl rfl rfl ?_
  refine L_q (Q_move rfl) rfl rfl rfl ?_
  refine L_q (Q_nilCheck rfl) rfl rfl rfl ?_
  refine L_q (Q_fa0 rfl) rfl rfl rfl ?_
  refine L_q (Q_ld 0 rfl rfl rfl rfl) rfl rfl rfl ?_
  refine L_q (Q_lenAt 1 rfl rfl) rfl rfl rfl ?_
  refine L_q (Q_lss rfl rfl) rfl rfl rfl ?_
  refine L_q (Q_pickT rfl rfl) rfl rfl rfl ?_
  refine JL_nil ?_
  refine seqQ_normal ?_
  refine J_condD rfl (fun h => ?_) (fun h => ?_)
  · have hlt : k < d.b.length := by omega
    have e : cutD d k = ⟨d.b.take k, min d.s k⟩ := by unfold cutD; rw [if_pos hlt]
    refine J_seq ?_
    refine J_region ?_
    refine L_q (Q_move rfl) rfl rfl rfl ?_
    refine L_q (Q_move rfl) rfl rfl rfl ?_
    refine L_q (Q_nilCheck rfl) rfl rfl rfl ?_
    refine L_q (Q_fa0 rfl) rfl rfl rfl ?_
    refine L_q (Q_ld 0 rfl rfl rfl rfl) rfl rfl rfl ?_
    refine L_q (Q_move rfl) rfl rfl rfl ?_
    refine L_q (Q_slH (τ := tB) k (fun w h => h.rd 1 rfl) rfl rfl rfl (by omega) rfl) rfl rfl rfl ?_
    refine L_q (Q_nilCheck rfl) rfl rfl rfl ?_
    refine L_q (Q_fa0 rfl) rfl rfl rfl ?_
    refine L_s rfl rfl (O_st1 0 rfl rfl rfl rfl rfl ?_)
    refine JL.norm ?_
    refine JL_nil ?_
    refine seqQ_normal ?_
    refine J_region ?_
    refine L_q (Q_move rfl) rfl rfl rfl ?_
    refine L_q (Q_move rfl) rfl rfl rfl ?_
    refine L_q (Q_nilCheck rfl) rfl rfl rfl ?_
    refine L_q (Q_fa0 rfl) rfl rfl rfl ?_
    refine L_q (Q_ld 0 rfl rfl rfl rfl) rfl rfl rfl ?_
    refine L_q (Q_move rfl) rfl rfl rfl ?_
    refine L_q (Q_min2 rfl rfl) rfl rfl rfl ?_
    refine L_q (Q_nilCheck rfl) rfl rfl rfl ?_
    refine L_q (Q_fa0 rfl) rfl rfl rfl ?_
    refine L_s rfl rfl (O_st1 0 rfl rfl rfl rfl rfl ?_)
    refine JL.norm ?_
    refine JL_nil ?_
    refine retQ_normal [] [diskAt p (cutD d k)] .nil ⟨rfl, by unfold diskAt; rfl⟩ ?_
    rw [e]
    have hm : min (d.s : Int) (k : Int) = ((min d.s k : Nat) : Int) := by omega
    rw [hm]
    exact (Ent.sub 1 0 k rfl (by omega) (by omega)).trans (diskAt_mk (d := ⟨d.b.take k, min d.s k⟩) (S := S.sub 1 0 k) rfl)
  · have e : cutD d k = d := by unfold cutD; rw [if_neg (by omega)]
    rw [e]
    refine J_skip ?_
    refine retQ_normal [] [diskAt p d] .nil ⟨rfl, by unfold diskAt; rfl⟩ ?_
    exact diskAt_mk rfl
end Go.Proofs
