/- Chapter 37's example. -/
import Derived.Test.YtjpkeibhimimpaaLastP
import Derived.Test.YtjpkeibhimimpaaSame
set_option autoImplicit false
namespace Go.Proofs
open Go.SL
theorem nextT_text (s r : List UInt8) (h : s.length < 2 ^ 32) : nextT (four s.length ++ s ++ r) = some (s, r) := by
  have h1 : (four s.length ++ s ++ r).drop 4 = s ++ r := rfl
  have h2 : (four s.length ++ s ++ r).take 4 = four s.length := rfl
  have h3 : be (four s.length) = s.length := by rw [be_four, Nat.mod_eq_of_lt h]
  unfold nextT
  rw [h1, h2, h3, if_neg (by simp [four_len]), if_neg (by simp)]
  simp
theorem readT_texts (l : List (List UInt8)) (h : ∀ s ∈ l, s.length < 2 ^ 32) : readT (texts l) = some l := by
  induction l with
  | nil => exact readT_nil
  | cons s l ih =>
    have e : texts (s :: l) = four s.length ++ s ++ texts l := by simp [texts]
    rw [e, readT_some (by simp [four]) (nextT_text s _ (h s (by simp))), ih (fun t ht => h t (by simp [ht]))]
    rfl
def exA : List Pr := [([97], [49]), ([98], [])]
def exB : List Pr := [([98], []), ([97], [])]
theorem exA_unp : unpT (texts (flat exA)) = some exA := by
  rw [unpT_some (readT_texts _ (by decide))]; rfl
theorem exB_unp : unpT (texts (flat exB)) = none := by
  rw [unpT_some (readT_texts _ (by decide))]; rfl
attribute [local irreducible] J JL QOp JOp seqQ blockQ loopQ retQ slc cel hex star pur stars Does RV Ent pAt
theorem awake_ok (E : World) : Does Try.prog E 9 [] [] fun v L => v = .bool true ∧ L = [] := by
  have h1 := write_whole (upto := -1) (body := [97]) tells_nil (by omega) (by decide) (by decide)
  have l1 := doW_len (a := []) (b := []) (body := [97]) (upto := -1) (by decide) (by decide)
  have o1 := doW_ok (a := []) (b := []) (body := [97]) (upto := -1) (by decide)
  have w1 := fun p => write_ok E p SV.nil SV.nil [] [] [97] (-1) (by decide) (by decide)
  rw [o1] at w1
  generalize (doW [] [] [97] (-1)).1 = a1 at h1 l1 w1
  generalize (doW [] [] [97] (-1)).2.1 = b1 at h1 l1 w1
  have h2 := write_cut (upto := 5) (body := [98]) h1 (by decide) (by decide)
  have l2 := doW_len (body := [98]) (upto := 5) l1.1 l1.2
  have o2 := doW_ok (a := a1) (b := b1) (body := [98]) (upto := 5) (by decide)
  have w2 := fun p S T => write_ok E p S T a1 b1 [98] 5 (by omega) (by omega)
  rw [o2] at w2
  generalize (doW a1 b1 [98] 5).1 = a2 at h2 l2 w2
  generalize (doW a1 b1 [98] 5).2.1 = b2 at h2 l2 w2
  have d2 := fun p S T => load_ok E p S T a2 b2 (by omega) (by omega)
  rw [h2.load.1, h2.load.2] at d2
  have h3 := write_whole (upto := -1) (body := [99]) h2 (by omega) (by decide) (by decide)
  have l3 := doW_len (body := [99]) (upto := -1) l2.1 l2.2
  have o3 := doW_ok (a := a2) (b := b2) (body := [99]) (upto := -1) (by decide)
  have w3 := fun p S T => write_ok E p S T a2 b2 [99] (-1) (by omega) (by omega)
  rw [o3] at w3
  generalize (doW a2 b2 [99] (-1)).1 = a3 at h3 l3 w3
  generalize (doW a2 b2 [99] (-1)).2.1 = b3 at h3 l3 w3
  have d3 := fun p S T => load_ok E p S T a3 b3 (by omega) (by omega)
  rw [h3.load.1, h3.load.2] at d3
  have p1 := fun S => pack_ok E true S exA (by decide) (by decide)
  have p2 := fun S => pack_ok E true S exB (by decide) (by decide)
  have u1 := unpack_ok E (texts (flat exA)) (by decide)
  have u2 := unpack_ok E (texts (flat exB)) (by decide)
  have e1 : unpE (texts (flat exA)) = 0 := by unfold unpE; rw [exA_unp]; rfl
  have e2 : unpL (texts (flat exA)) = exA := by unfold unpL; rw [exA_unp]; rfl
  have e3 : unpE (texts (flat exB)) = 3 := by unfold unpE; rw [exB_unp]; rfl
  have e4 : unpL (texts (flat exB)) = [] := by unfold unpL; rw [exB_unp]; rfl
  rw [e1, e2] at u1
  rw [e3, e4] at u2
  clear l1 l2 l3 o1 o2 o3
  refine Does.of Try.func9 rfl Try.ntmps9 rfl rfl fun F => ?_
  refine J.norm ?_
  repeat first
    | refine J_seq ?_
    | refine seqQ_normal ?_
    | refine J_condT rfl ?_
    | refine J_condF rfl ?_
    | refine J_block ?_
    | refine blockQ_normal ?_
    | refine J_exit ?_
    | refine seqQ_exit ?_
    | refine blockQ_hit ?_
    | refine blockQ_miss rfl ?_
    | refine J_skip ?_
    | refine J_ret ?_
    | refine seqQ_ret ?_
    | refine blockQ_ret ?_
    | refine loopQ_exit ?_
    | refine loopQ_ret ?_
    | refine J_label ?_
  refine J_region ?_
  refine L_q (Q_assign rfl) rfl rfl rfl ?_
  refine JL_nil ?_
  repeat first
    | refine J_seq ?_
    | refine seqQ_normal ?_
    | refine J_condT rfl ?_
    | refine J_condF rfl ?_
    | refine J_block ?_
    | refine blockQ_normal ?_
    | refine J_exit ?_
    | refine seqQ_exit ?_
    | refine blockQ_hit ?_
    | refine blockQ_miss rfl ?_
    | refine J_skip ?_
    | refine J_ret ?_
    | refine seqQ_ret ?_
    | refine blockQ_ret ?_
    | refine loopQ_exit ?_
    | refine loopQ_ret ?_
    | refine J_label ?_
  repeat first
    | refine J_seq ?_
    | refine seqQ_normal ?_
    | refine J_condT rfl ?_
    | refine J_condF rfl ?_
    | refine J_block ?_
    | refine blockQ_normal ?_
    | refine J_exit ?_
    | refine seqQ_exit ?_
    | refine blockQ_hit ?_
    | refine blockQ_miss rfl ?_
    | refine J_skip ?_
    | refine J_ret ?_
    | refine seqQ_ret ?_
    | refine blockQ_ret ?_
    | refine loopQ_exit ?_
    | refine loopQ_ret ?_
    | refine J_label ?_
  refine J_region ?_
  refine L_o rfl rfl rfl (O_call [] [0] (snew_ok E) rfl rfl ?_)
  rintro _ _ ⟨p, rfl, rfl⟩
  refine JL.norm ?_
  refine L_q (Q_assign rfl) rfl rfl rfl ?_
  refine JL_nil ?_
  repeat first
    | refine J_seq ?_
    | refine seqQ_normal ?_
    | refine J_condT rfl ?_
    | refine J_condF rfl ?_
    | refine J_block ?_
    | refine blockQ_normal ?_
    | refine J_exit ?_
    | refine seqQ_exit ?_
    | refine blockQ_hit ?_
    | refine blockQ_miss rfl ?_
    | refine J_skip ?_
    | refine J_ret ?_
    | refine seqQ_ret ?_
    | refine blockQ_ret ?_
    | refine loopQ_exit ?_
    | refine loopQ_ret ?_
    | refine J_label ?_
  repeat first
    | refine J_seq ?_
    | refine seqQ_normal ?_
    | refine J_condT rfl ?_
    | refine J_condF rfl ?_
    | refine J_block ?_
    | refine blockQ_normal ?_
    | refine J_exit ?_
    | refine seqQ_exit ?_
    | refine blockQ_hit ?_
    | refine blockQ_miss rfl ?_
    | refine J_skip ?_
    | refine J_ret ?_
    | refine seqQ_ret ?_
    | refine blockQ_ret ?_
    | refine loopQ_exit ?_
    | refine loopQ_ret ?_
    | refine J_label ?_
  refine J_region ?_
  refine L_q (Q_move rfl) rfl rfl rfl ?_
  refine L_q (Q_peql rfl rfl) rfl rfl rfl ?_
  refine JL_nil ?_
  repeat first
    | refine J_seq ?_
    | refine seqQ_normal ?_
    | refine J_condT rfl ?_
    | refine J_condF rfl ?_
    | refine J_block ?_
    | refine blockQ_normal ?_
    | refine J_exit ?_
    | refine seqQ_exit ?_
    | refine blockQ_hit ?_
    | refine blockQ_miss rfl ?_
    | refine J_skip ?_
    | refine J_ret ?_
    | refine seqQ_ret ?_
    | refine blockQ_ret ?_
    | refine loopQ_exit ?_
    | refine loopQ_ret ?_
    | refine J_label ?_
  repeat first
    | refine J_seq ?_
    | refine seqQ_normal ?_
    | refine J_condT rfl ?_
    | refine J_condF rfl ?_
    | refine J_block ?_
    | refine blockQ_normal ?_
    | refine J_exit ?_
    | refine seqQ_exit ?_
    | refine blockQ_hit ?_
    | refine blockQ_miss rfl ?_
    | refine J_skip ?_
    | refine J_ret ?_
    | refine seqQ_ret ?_
    | refine blockQ_ret ?_
    | refine loopQ_exit ?_
    | refine loopQ_ret ?_
    | refine J_label ?_
  refine J_region ?_
  refine L_q (Q_move rfl) rfl rfl rfl ?_
  refine L_o rfl rfl rfl (O_call [0,1,2] [3] (w1 p) rfl rfl ?_)
  rintro _ _ ⟨S1, T1, rfl, rfl⟩
  refine JL.norm ?_
  refine L_q (Q_assign rfl) rfl rfl rfl ?_
  refine JL_nil ?_
  repeat first
    | refine J_seq ?_
    | refine seqQ_normal ?_
    | refine J_condT rfl ?_
    | refine J_condF rfl ?_
    | refine J_block ?_
    | refine blockQ_normal ?_
    | refine J_exit ?_
    | refine seqQ_exit ?_
    | refine blockQ_hit ?_
    | refine blockQ_miss rfl ?_
    | refine J_skip ?_
    | refine J_ret ?_
    | refine seqQ_ret ?_
    | refine blockQ_ret ?_
    | refine loopQ_exit ?_
    | refine loopQ_ret ?_
    | refine J_label ?_
  repeat first
    | refine J_seq ?_
    | refine seqQ_normal ?_
    | refine J_condT rfl ?_
    | refine J_condF rfl ?_
    | refine J_block ?_
    | refine blockQ_normal ?_
    | refine J_exit ?_
    | refine seqQ_exit ?_
    | refine blockQ_hit ?_
    | refine blockQ_miss rfl ?_
    | refine J_skip ?_
    | refine J_ret ?_
    | refine seqQ_ret ?_
    | refine blockQ_ret ?_
    | refine loopQ_exit ?_
    | refine loopQ_ret ?_
    | refine J_label ?_
  refine J_region ?_
  refine L_q (Q_move rfl) rfl rfl rfl ?_
  refine L_o rfl rfl rfl (O_call [0,1,2] [3] (w2 p S1 T1) rfl rfl ?_)
  rintro _ _ ⟨S2, T2, rfl, rfl⟩
  refine JL.norm ?_
  refine L_q (Q_assign rfl) rfl rfl rfl ?_
  refine JL_nil ?_
  repeat first
    | refine J_seq ?_
    | refine seqQ_normal ?_
    | refine J_condT rfl ?_
    | refine J_condF rfl ?_
    | refine J_block ?_
    | refine blockQ_normal ?_
    | refine J_exit ?_
    | refine seqQ_exit ?_
    | refine blockQ_hit ?_
    | refine blockQ_miss rfl ?_
    | refine J_skip ?_
    | refine J_ret ?_
    | refine seqQ_ret ?_
    | refine blockQ_ret ?_
    | refine loopQ_exit ?_
    | refine loopQ_ret ?_
    | refine J_label ?_
  repeat first
    | refine J_seq ?_
    | refine seqQ_normal ?_
    | refine J_condT rfl ?_
    | refine J_condF rfl ?_
    | refine J_block ?_
    | refine blockQ_normal ?_
    | refine J_exit ?_
    | refine seqQ_exit ?_
    | refine blockQ_hit ?_
    | refine blockQ_miss rfl ?_
    | refine J_skip ?_
    | refine J_ret ?_
    | refine seqQ_ret ?_
    | refine blockQ_ret ?_
    | refine loopQ_exit ?_
    | refine loopQ_ret ?_
    | refine J_label ?_
  refine J_region ?_
  refine L_q (Q_move rfl) rfl rfl rfl ?_
  refine L_o rfl rfl rfl (O_call [0,1,2] [3] (d2 p S2 T2) rfl rfl ?_)
  rintro _ _ ⟨rfl, rfl⟩
  refine JL.norm ?_
  refine L_q (Q_move rfl) rfl rfl rfl ?_
  refine L_q (Q_extract (v := str [97]) rfl rfl) rfl rfl rfl ?_
  refine L_q (Q_extract (v := .int .i64 1) rfl rfl) rfl rfl rfl ?_
  refine L_q (Q_assign rfl) rfl rfl rfl ?_
  refine L_q (Q_assign rfl) rfl rfl rfl ?_
  refine JL_nil ?_
  repeat first
    | refine J_seq ?_
    | refine seqQ_normal ?_
    | refine J_condT rfl ?_
    | refine J_condF rfl ?_
    | refine J_block ?_
    | refine blockQ_normal ?_
    | refine J_exit ?_
    | refine seqQ_exit ?_
    | refine blockQ_hit ?_
    | refine blockQ_miss rfl ?_
    | refine J_skip ?_
    | refine J_ret ?_
    | refine seqQ_ret ?_
    | refine blockQ_ret ?_
    | refine loopQ_exit ?_
    | refine loopQ_ret ?_
    | refine J_label ?_
  repeat first
    | refine J_seq ?_
    | refine seqQ_normal ?_
    | refine J_condT rfl ?_
    | refine J_condF rfl ?_
    | refine J_block ?_
    | refine blockQ_normal ?_
    | refine J_exit ?_
    | refine seqQ_exit ?_
    | refine blockQ_hit ?_
    | refine blockQ_miss rfl ?_
    | refine J_skip ?_
    | refine J_ret ?_
    | refine seqQ_ret ?_
    | refine blockQ_ret ?_
    | refine loopQ_exit ?_
    | refine loopQ_ret ?_
    | refine J_label ?_
  refine J_region ?_
  refine L_q (Q_move rfl) rfl rfl rfl ?_
  refine L_o rfl rfl rfl (O_call [0,1,2] [3] (w3 p S2 T2) rfl rfl ?_)
  rintro _ _ ⟨S3, T3, rfl, rfl⟩
  refine JL.norm ?_
  refine L_q (Q_assign rfl) rfl rfl rfl ?_
  refine JL_nil ?_
  repeat first
    | refine J_seq ?_
    | refine seqQ_normal ?_
    | refine J_condT rfl ?_
    | refine J_condF rfl ?_
    | refine J_block ?_
    | refine blockQ_normal ?_
    | refine J_exit ?_
    | refine seqQ_exit ?_
    | refine blockQ_hit ?_
    | refine blockQ_miss rfl ?_
    | refine J_skip ?_
    | refine J_ret ?_
    | refine seqQ_ret ?_
    | refine blockQ_ret ?_
    | refine loopQ_exit ?_
    | refine loopQ_ret ?_
    | refine J_label ?_
  repeat first
    | refine J_seq ?_
    | refine seqQ_normal ?_
    | refine J_condT rfl ?_
    | refine J_condF rfl ?_
    | refine J_block ?_
    | refine blockQ_normal ?_
    | refine J_exit ?_
    | refine seqQ_exit ?_
    | refine blockQ_hit ?_
    | refine blockQ_miss rfl ?_
    | refine J_skip ?_
    | refine J_ret ?_
    | refine seqQ_ret ?_
    | refine blockQ_ret ?_
    | refine loopQ_exit ?_
    | refine loopQ_ret ?_
    | refine J_label ?_
  refine J_region ?_
  refine L_q (Q_move rfl) rfl rfl rfl ?_
  refine L_o rfl rfl rfl (O_call [0,1,2] [3] (d3 p S3 T3) rfl rfl ?_)
  rintro _ _ ⟨rfl, rfl⟩
  refine JL.norm ?_
  refine L_q (Q_move rfl) rfl rfl rfl ?_
  refine L_q (Q_extract (v := str [99]) rfl rfl) rfl rfl rfl ?_
  refine L_q (Q_extract (v := .int .i64 2) rfl rfl) rfl rfl rfl ?_
  refine L_q (Q_assign rfl) rfl rfl rfl ?_
  refine L_q (Q_assign rfl) rfl rfl rfl ?_
  refine JL_nil ?_
  repeat first
    | refine J_seq ?_
    | refine seqQ_normal ?_
    | refine J_condT rfl ?_
    | refine J_condF rfl ?_
    | refine J_block ?_
    | refine blockQ_normal ?_
    | refine J_exit ?_
    | refine seqQ_exit ?_
    | refine blockQ_hit ?_
    | refine blockQ_miss rfl ?_
    | refine J_skip ?_
    | refine J_ret ?_
    | refine seqQ_ret ?_
    | refine blockQ_ret ?_
    | refine loopQ_exit ?_
    | refine loopQ_ret ?_
    | refine J_label ?_
  repeat first
    | refine J_seq ?_
    | refine seqQ_normal ?_
    | refine J_condT rfl ?_
    | refine J_condF rfl ?_
    | refine J_block ?_
    | refine blockQ_normal ?_
    | refine J_exit ?_
    | refine seqQ_exit ?_
    | refine blockQ_hit ?_
    | refine blockQ_miss rfl ?_
    | refine J_skip ?_
    | refine J_ret ?_
    | refine seqQ_ret ?_
    | refine blockQ_ret ?_
    | refine loopQ_exit ?_
    | refine loopQ_ret ?_
    | refine J_label ?_
  refine J_region ?_
  refine L_q (Q_build rfl) rfl rfl rfl ?_
  refine L_q (Q_build rfl) rfl rfl rfl ?_
  refine L_o rfl rfl rfl (O_litP (τ := tP) (m := 2) (sz := 2) exA rfl rfl rfl rfl rfl rfl (by decide) (fun S4 => ?_))
  refine JL.norm ?_
  refine L_o rfl rfl rfl (O_call [0] [1,2,3,4] (p1 S4) rfl rfl ?_)
  rintro _ _ ⟨rfl, rfl⟩
  refine JL.norm ?_
  refine L_o rfl rfl rfl (O_call [] [0,1,2,3,4] u1 rfl rfl ?_)
  rintro _ _ ⟨S5, rfl, rfl⟩
  refine JL.norm ?_
  refine L_q (Q_move rfl) rfl rfl rfl ?_
  refine L_q (Q_extract (v := S5.v) rfl rfl) rfl rfl rfl ?_
  refine L_q (Q_extract (v := .int .i64 0) rfl rfl) rfl rfl rfl ?_
  refine L_q (Q_assign rfl) rfl rfl rfl ?_
  refine L_q (Q_assign rfl) rfl rfl rfl ?_
  refine JL_nil ?_
  repeat first
    | refine J_seq ?_
    | refine seqQ_normal ?_
    | refine J_condT rfl ?_
    | refine J_condF rfl ?_
    | refine J_block ?_
    | refine blockQ_normal ?_
    | refine J_exit ?_
    | refine seqQ_exit ?_
    | refine blockQ_hit ?_
    | refine blockQ_miss rfl ?_
    | refine J_skip ?_
    | refine J_ret ?_
    | refine seqQ_ret ?_
    | refine blockQ_ret ?_
    | refine loopQ_exit ?_
    | refine loopQ_ret ?_
    | refine J_label ?_
  repeat first
    | refine J_seq ?_
    | refine seqQ_normal ?_
    | refine J_condT rfl ?_
    | refine J_condF rfl ?_
    | refine J_block ?_
    | refine blockQ_normal ?_
    | refine J_exit ?_
    | refine seqQ_exit ?_
    | refine blockQ_hit ?_
    | refine blockQ_miss rfl ?_
    | refine J_skip ?_
    | refine J_ret ?_
    | refine seqQ_ret ?_
    | refine blockQ_ret ?_
    | refine loopQ_exit ?_
    | refine loopQ_ret ?_
    | refine J_label ?_
  refine J_region ?_
  refine L_q (Q_build rfl) rfl rfl rfl ?_
  refine L_q (Q_build rfl) rfl rfl rfl ?_
  refine L_o rfl rfl rfl (O_litP (τ := tP) (m := 2) (sz := 2) exB rfl rfl rfl rfl rfl rfl (by decide) (fun S6 => ?_))
  refine JL.norm ?_
  refine L_o rfl rfl rfl (O_call [0] [1,2,3,4,5,6] (p2 S6) rfl rfl ?_)
  rintro _ _ ⟨rfl, rfl⟩
  refine JL.norm ?_
  refine L_o rfl rfl rfl (O_call [] [0,1,2,3,4,5,6] u2 rfl rfl ?_)
  rintro _ _ ⟨S7, rfl, rfl⟩
  refine JL.norm ?_
  refine L_q (Q_move rfl) rfl rfl rfl ?_
  refine L_q (Q_extract (v := S7.v) rfl rfl) rfl rfl rfl ?_
  refine L_q (Q_extract (v := .int .i64 3) rfl rfl) rfl rfl rfl ?_
  refine L_q (Q_assign rfl) rfl rfl rfl ?_
  refine L_q (Q_assign rfl) rfl rfl rfl ?_
  refine JL_nil ?_
  repeat first
    | refine J_seq ?_
    | refine seqQ_normal ?_
    | refine J_condT rfl ?_
    | refine J_condF rfl ?_
    | refine J_block ?_
    | refine blockQ_normal ?_
    | refine J_exit ?_
    | refine seqQ_exit ?_
    | refine blockQ_hit ?_
    | refine blockQ_miss rfl ?_
    | refine J_skip ?_
    | refine J_ret ?_
    | refine seqQ_ret ?_
    | refine blockQ_ret ?_
    | refine loopQ_exit ?_
    | refine loopQ_ret ?_
    | refine J_label ?_
  repeat first
    | refine J_seq ?_
    | refine seqQ_normal ?_
    | refine J_condT rfl ?_
    | refine J_condF rfl ?_
    | refine J_block ?_
    | refine blockQ_normal ?_
    | refine J_exit ?_
    | refine seqQ_exit ?_
    | refine blockQ_hit ?_
    | refine blockQ_miss rfl ?_
    | refine J_skip ?_
    | refine J_ret ?_
    | refine seqQ_ret ?_
    | refine blockQ_ret ?_
    | refine loopQ_exit ?_
    | refine loopQ_ret ?_
    | refine J_label ?_
  refine J_region ?_
  refine L_q (Q_move rfl) rfl rfl rfl ?_
  refine L_q (Q_eql rfl rfl) rfl rfl rfl ?_
  refine L_q (Q_move rfl) rfl rfl rfl ?_
  refine L_q (Q_move rfl) rfl rfl rfl ?_
  refine L_q (Q_eql rfl rfl) rfl rfl rfl ?_
  first
    | refine L_q (Q_pickT rfl rfl) rfl rfl rfl ?_
    | refine L_q (Q_pickF rfl rfl) rfl rfl rfl ?_
    | refine L_q (Q_pickB rfl rfl rfl) rfl rfl rfl ?_
  refine L_q (Q_move rfl) rfl rfl rfl ?_
  refine L_q (Q_move rfl) rfl rfl rfl ?_
  refine L_q (Q_seql rfl rfl) rfl rfl rfl ?_
  first
    | refine L_q (Q_pickT rfl rfl) rfl rfl rfl ?_
    | refine L_q (Q_pickF rfl rfl) rfl rfl rfl ?_
    | refine L_q (Q_pickB rfl rfl rfl) rfl rfl rfl ?_
  refine L_q (Q_move rfl) rfl rfl rfl ?_
  refine L_q (Q_move rfl) rfl rfl rfl ?_
  refine L_q (Q_eql rfl rfl) rfl rfl rfl ?_
  first
    | refine L_q (Q_pickT rfl rfl) rfl rfl rfl ?_
    | refine L_q (Q_pickF rfl rfl) rfl rfl rfl ?_
    | refine L_q (Q_pickB rfl rfl rfl) rfl rfl rfl ?_
  refine L_q (Q_move rfl) rfl rfl rfl ?_
  refine L_q (Q_move rfl) rfl rfl rfl ?_
  refine L_q (Q_eql rfl rfl) rfl rfl rfl ?_
  first
    | refine L_q (Q_pickT rfl rfl) rfl rfl rfl ?_
    | refine L_q (Q_pickF rfl rfl) rfl rfl rfl ?_
    | refine L_q (Q_pickB rfl rfl rfl) rfl rfl rfl ?_
  refine L_q (Q_move rfl) rfl rfl rfl ?_
  refine L_q (Q_move rfl) rfl rfl rfl ?_
  refine L_q (Q_seql rfl rfl) rfl rfl rfl ?_
  first
    | refine L_q (Q_pickT rfl rfl) rfl rfl rfl ?_
    | refine L_q (Q_pickF rfl rfl) rfl rfl rfl ?_
    | refine L_q (Q_pickB rfl rfl rfl) rfl rfl rfl ?_
  refine L_q (Q_move rfl) rfl rfl rfl ?_
  refine L_q (Q_move rfl) rfl rfl rfl ?_
  refine L_q (Q_eql rfl rfl) rfl rfl rfl ?_
  first
    | refine L_q (Q_pickT rfl rfl) rfl rfl rfl ?_
    | refine L_q (Q_pickF rfl rfl) rfl rfl rfl ?_
    | refine L_q (Q_pickB rfl rfl rfl) rfl rfl rfl ?_
  refine L_q (Q_move rfl) rfl rfl rfl ?_
  refine L_q (Q_move rfl) rfl rfl rfl ?_
  first
    | refine L_q (Q_lenAt 0 rfl rfl) rfl rfl rfl ?_
    | refine L_q (Q_lenAt 1 rfl rfl) rfl rfl rfl ?_
    | refine L_q (Q_lenAt 2 rfl rfl) rfl rfl rfl ?_
    | refine L_q (Q_lenAt 3 rfl rfl) rfl rfl rfl ?_
    | refine L_q (Q_lenAt 4 rfl rfl) rfl rfl rfl ?_
  refine L_q (Q_eql rfl rfl) rfl rfl rfl ?_
  first
    | refine L_q (Q_pickT rfl rfl) rfl rfl rfl ?_
    | refine L_q (Q_pickF rfl rfl) rfl rfl rfl ?_
    | refine L_q (Q_pickB rfl rfl rfl) rfl rfl rfl ?_
  refine L_q (Q_move rfl) rfl rfl rfl ?_
  refine L_q (Q_move rfl) rfl rfl rfl ?_
  refine L_q (Q_ixAt 2 0 rfl rfl rfl rfl (by decide) rfl) rfl rfl rfl ?_
  refine L_q (Q_pfa rfl) rfl rfl rfl ?_
  refine L_q (Q_ldEAt 2 0 1 (v := str [49]) rfl rfl rfl rfl (by decide) (by decide) rfl) rfl rfl rfl ?_
  refine L_q (Q_seql rfl rfl) rfl rfl rfl ?_
  first
    | refine L_q (Q_pickT rfl rfl) rfl rfl rfl ?_
    | refine L_q (Q_pickF rfl rfl) rfl rfl rfl ?_
    | refine L_q (Q_pickB rfl rfl rfl) rfl rfl rfl ?_
  refine L_q (Q_move rfl) rfl rfl rfl ?_
  refine L_q (Q_move rfl) rfl rfl rfl ?_
  refine L_q (Q_eql rfl rfl) rfl rfl rfl ?_
  first
    | refine L_q (Q_pickT rfl rfl) rfl rfl rfl ?_
    | refine L_q (Q_pickF rfl rfl) rfl rfl rfl ?_
    | refine L_q (Q_pickB rfl rfl rfl) rfl rfl rfl ?_
  refine L_q (Q_move rfl) rfl rfl rfl ?_
  refine L_q (Q_move rfl) rfl rfl rfl ?_
  refine L_q ((Q_eql rfl rfl).as (v' := .bool true) rfl) rfl rfl rfl ?_
  first
    | refine L_q (Q_pickT rfl rfl) rfl rfl rfl ?_
    | refine L_q (Q_pickF rfl rfl) rfl rfl rfl ?_
    | refine L_q (Q_pickB rfl rfl rfl) rfl rfl rfl ?_
  refine L_q (Q_assign rfl) rfl rfl rfl ?_
  refine JL_nil ?_
  repeat first
    | refine J_seq ?_
    | refine seqQ_normal ?_
    | refine J_condT rfl ?_
    | refine J_condF rfl ?_
    | refine J_block ?_
    | refine blockQ_normal ?_
    | refine J_exit ?_
    | refine seqQ_exit ?_
    | refine blockQ_hit ?_
    | refine blockQ_miss rfl ?_
    | refine J_skip ?_
    | refine J_ret ?_
    | refine seqQ_ret ?_
    | refine blockQ_ret ?_
    | refine loopQ_exit ?_
    | refine loopQ_ret ?_
    | refine J_label ?_
  exact retQ_ret _ [] (.cons (RV_tmp rfl) .nil) ⟨rfl, rfl⟩ (Ent.re [7] rfl)
end Go.Proofs
